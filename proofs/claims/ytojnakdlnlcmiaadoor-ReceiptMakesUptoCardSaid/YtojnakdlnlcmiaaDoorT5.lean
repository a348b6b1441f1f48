/- Part of a proof: rules that its law uses. -/
import Derived.Test.YtojnakdlnlcmiaaDoorT4
namespace Go.Fw.Tryd
open Go Go.Proofs Go.Fw
set_option maxRecDepth 100000
set_option linter.unusedVariables false
set_option linter.unusedSimpArgs false
set_option maxHeartbeats 1000000
theorem waybillref17_BloomOf_does (w0 : World) (Φ : Ctx) (N : List Ent) (hΦ : ∀ w, Mem w0 w N → Φ w) (A0_ : Option Addr) (c0_ : Nat) (cs0_ : List Value) (a0 : List (Log)) (res0 : Vector (BitVec 8) 256) (va0 : View Φ A0_ a0.length c0_ 22 cs0_) (ha0 : Reps (LogRd Φ) cs0_ a0) (hTn : ∀ i, i < 25 → w0.cell? ⟨4, i, none⟩ = some (.int .i64 (turnsL.getD i 0))) (hRn : ∀ i, i < 24 → w0.cell? ⟨3, i, none⟩ = some (U64 (g64 roundsL i))) (hf : waybillref17_BloomOf a0 = some res0) : DoesG Tryd.prog 29 [.slice A0_ a0.length c0_] w0 [] N (fun v G => v = .agg (u8s res0.toList).toArray) := by
 unfold waybillref17_BloomOf at hf
 replace va0 := va0.mono (Ψ := More w0 Φ []) (fun w q => q.1)
 replace ha0 := ha0.mono (LogRd.mono (Ψ := More w0 Φ []) (fun w q => q.1))
 have m1 := va0.mx
 refine DoesG.enter Tryd.func29 rfl Tryd.ntmps29 rfl (M := (([] ++ N))) rfl (CW.seq (CW.region (OW.alloc (l := (u8s (Vector.replicate 256 0#8).toList)) rfl (by rw [Vector.toList_replicate, ← u8s_rep']; rfl) rfl (fun b2 => (OW.nil (QW.then_n (CW.seq (CW.region (OW.rv (RV.assign rfl) rfl (OW.nil (QW.then_n (CW.seq (CW.seq (CW.region (OW.rv (RV.assign rfl) rfl (OW.nil (QW.then_n ?_)))))))))))))))))
 obtain ⟨q3, hq4, hf⟩ := some_bind hf
 refine CW.cutJ (fun L' M' => ∃ l7 : List (List (BitVec 8)), ∃ B5 : List Ent, ∃ cs8 : List Value, ∃ ob10 : Option Nat, ∃ c11 : Nat, ∃ r12 : List Value, q3 = l7 ∧ (∀ w, Mem w0 w B5 → Mem w0 w []) ∧ (Reps (BsRd (More w0 Φ B5)) cs8 l7) ∧ (OwnS ob10 l7.length c11 1 cs8 r12) ∧ L' = [(2, ptr (some b2) 0), (3, sl ob10 0 l7.length c11)] ∧ M' = ((ob10, blk (cs8 ++ r12) 61) :: (some b2, blk (u8s (Vector.replicate 256 0#8).toList) 27) :: (B5 ++ N))) ?_ ?_
 ·rintro L15 M16 ⟨l7, B5, cs8, ob10, c11, r12, e14, hB6, h9, o13, e17, e18⟩
  rw [e17, e18]
  clear e17 e18 L15 M16
  clear hq4
  rw [e14] at hf
  clear e14
  try dsimp only at hf
  have m19 := o13.mx
  refine QW.then_n (CW.seq (CW.region (OW.rv (RV.move rfl) rfl (OW.mem (M' := (some b2, blk (u8s (Vector.replicate 256 0#8).toList) 27) :: (((ob10, blk (cs8 ++ r12) 61) :: B5) ++ N)) (fun w m => m.pick [1, 0] 2 rfl rfl) ?_))))
  have gq1 : ∀ w, More w0 Φ ((ob10, blk (cs8 ++ r12) 61) :: B5) w → More w0 Φ B5 w := fun w q => More.mono (fun w m => (m).tail) q
  replace h9 := h9.mono (BsRd.mono gq1)
  have v20 : View (More w0 Φ ((ob10, blk (cs8 ++ r12) 61) :: B5)) ((ob10).map fun k => ⟨k, 0, none⟩) l7.length c11 1 cs8 := o13.view (by decide) (fun w q => q.2.sublist (List.singleton_sublist.2 (List.mem_cons_self ..)))
  obtain ⟨x22, hx21, hf⟩ := some_bind hf
  refine OW.callG Tryd.call53 rfl (waybillref10_Of_does w0 (More w0 Φ ((ob10, blk (cs8 ++ r12) 61) :: B5)) ((some b2, blk (u8s (Vector.replicate 256 0#8).toList) 27) :: (((ob10, blk (cs8 ++ r12) 61) :: B5) ++ N)) (fun w m => More.of hΦ 1 m rfl) ((ob10).map fun k => ⟨k, 0, none⟩) c11 cs8 l7 x22 v20 h9 hTn hRn hx21) rfl rfl ?_
  rintro _ G23 rfl
  refine OW.mem (M' := ((some b2, blk (u8s (Vector.replicate 256 0#8).toList) 27) :: (((ob10, blk (cs8 ++ r12) 61) :: B5) ++ N))) (fun w m => m.appR) (OW.sv (SV.storeW rfl rfl rfl (u8s_one _) rfl ((u8s_length _).trans Vector.length_toList) ((u8s_length _).trans Vector.length_toList)) (OW.nil (QW.then_n (CW.ret ?_))))
  have e0 := Option.some.inj hf
  subst e0
  refine QW.retG (rs := [.cell 2 27]) ([.agg (u8s x22.toList).toArray]) ((some b2, blk (u8s x22.toList) 27) :: ((ob10, blk (cs8 ++ r12) 61) :: B5)) rfl ?_ rfl ?_ ?_ _ (.inl rfl)
  ·exact ⟨⟨_, _, _, _, rfl, (List.Mem.head _), rfl, rfl, (congrArg some ((u8s_length _).trans Vector.length_toList).symm), rfl⟩, trivial⟩
  ·exact rfl
  ·exact (fun w m => m)
 ·skip
  refine CW.block (CW.mem (M' := ((none, blk ([] ++ []) 61) :: (some b2, blk (u8s (Vector.replicate 256 0#8).toList) 27) :: ([] ++ N))) (fun w m => m.nil_ent _) (CW.loopJ (fun k L' M' => ∃ l27 : List (List (BitVec 8)), ∃ n34 : Nat, ∃ B25 : List Ent, ∃ cs28 : List Value, ∃ ob30 : Option Nat, ∃ c31 : Nat, ∃ r32 : List Value, (waybillref17_BloomOf.l1 a0 k l27 n34) = some q3 ∧ (∀ w, Mem w0 w B25 → Mem w0 w []) ∧ (Reps (BsRd (More w0 Φ B25)) cs28 l27) ∧ (OwnS ob30 l27.length c31 1 cs28 r32) ∧ (n34 ≤ 9223372036854775807) ∧ L' = [(0, .slice A0_ a0.length c0_), (2, ptr (some b2) 0), (3, sl ob30 0 l27.length c31), (4, .int .i64 ((n34 : Nat) : Int))] ∧ M' = ((ob30, blk (cs28 ++ r32) 61) :: (some b2, blk (u8s (Vector.replicate 256 0#8).toList) 27) :: (B25 ++ N))) (k0 := (a0.length - 0 + 2)) ⟨([] : List (List (BitVec 8))), 0, [], [], none, 0, [], hq4, (fun w m => m), Reps.nil, OwnS.nil, (by omega), rfl, rfl⟩ ⟨rfl, rfl, rfl, rfl, trivial⟩ (fun w m => m.pick [0, 1] 2 rfl rfl) ?_))
  clear hq4
  rintro k36 L39 M40 ⟨l27, n34, B25, cs28, ob30, c31, r32, hl37, hB26, h29, o33, b35, e41, e42⟩
  rw [e41, e42]
  clear e41 e42 L39 M40
  rcases k36 with _ | k36
  ·rw [waybillref17_BloomOf.l1] at hl37; cases hl37
  rw [waybillref17_BloomOf.l1] at hl37
  have gq2 : ∀ w, More w0 Φ B25 w → More w0 Φ [] w := fun w q => More.mono (fun w m => hB26 w (m)) q
  replace va0 := va0.mono gq2
  replace ha0 := ha0.mono (LogRd.mono gq2)
  have m43 := o33.mx
  refine CW.seq (CW.seq (CW.region (OW.rv (RV.move rfl) rfl (OW.rv (RV.move rfl) rfl (OW.rv (RV.len rfl rfl) rfl (OW.rv (RV.lss rfl rfl) rfl (OW.slot (.bool (decide (n34 < a0.length))) (congrArg Value.bool (decide_eq_decide.2 (by omega))) (OW.nil (QW.then_n ?_)))))))))
  by_cases h44 : n34 < a0.length
  ·replace hl37 := if_t hl37 h44
   refine CW.is_t rfl (decide_eq_true h44) (CW.skip (QW.then_n (CW.seq (CW.block (CW.seq (CW.region (OW.rv (RV.move rfl) rfl (OW.rv (RV.move rfl) rfl ?_))))))))
   obtain ⟨x45, hx46, hl37⟩ := some_bind hl37
   have hl47 := lt_of_at hx46
   refine OW.rv (RV.idx_rs (n34) rfl rfl rfl rfl rfl (va0.isSome (by decide) hl47) (by omega)) rfl ?_
   obtain ⟨cs48, h49, h50⟩ := ha0.get LogRd.len hx46
   have h60 := h49
   obtain ⟨A51, c52, cs54, A56, c57, e59, v53, h55, v58⟩ := LogRd.opn h49
   subst e59
   have m61 := v53.mx
   have m62 := v58.mx
   refine OW.rv (RV.field_at rfl rfl rfl rfl) rfl (OW.rv (RV.loadAs rfl rfl rfl rfl (fun w m => va0.load_part (More.of hΦ 2 m rfl) h50 (LogC.C_address_all (⟨x45.address, .slice A51 x45.topics.length c52, .slice A56 x45.data.length c57⟩ : LogC))) ((u8s_length _).trans Vector.length_toList)) rfl (OW.alloc (l := (u8s (Vector.replicate 20 0#8).toList)) rfl (by rw [Vector.toList_replicate, ← u8s_rep']; rfl) rfl (fun b63 => (OW.sv (SV.storeW rfl rfl rfl (u8s_one _) rfl ((u8s_length _).trans Vector.length_toList) ((u8s_length _).trans Vector.length_toList)) (OW.nil (QW.then_n (CW.seq (CW.region (OW.mem (M' := (ob30, blk (cs28 ++ r32) 61) :: (some b2, blk (u8s (Vector.replicate 256 0#8).toList) 27) :: (((some b63, blk (u8s x45.address.toList) 60) :: B25) ++ N)) (fun w m => m.pick [1, 2, 0] 3 rfl rfl) ?_)))))))))
   have gq3 : ∀ w, More w0 Φ ((some b63, blk (u8s x45.address.toList) 60) :: B25) w → More w0 Φ B25 w := fun w q => More.mono (fun w m => (m).tail) q
   replace va0 := va0.mono gq3
   replace ha0 := ha0.mono (LogRd.mono gq3)
   replace h29 := h29.mono (BsRd.mono gq3)
   replace h60 := LogRd.mono gq3 _ _ h60
   replace v53 := v53.mono gq3
   replace h55 := h55.mono (Ar8Rd.mono gq3)
   replace v58 := v58.mono gq3
   have v64 : View (More w0 Φ ((some b63, blk (u8s x45.address.toList) 60) :: B25)) (some ⟨b63, 0, none⟩) x45.address.toList.length 20 1 (u8s x45.address.toList) := View.arr (w0 := w0) (te := 60) (fun w q => q.2.sublist (List.singleton_sublist.2 (List.mem_cons_self ..))) (by decide)
   refine OW.rv (RV.arr_all rfl rfl rfl) rfl ?_
   refine OW.slot (.slice (some ⟨b63, 0, none⟩) x45.address.toList.length 20) (by rw [Vector.length_toList]; try rfl) ?_
   have v65 := v64
   have m66 := v65.mx
   obtain ⟨x68, hx67, hl37⟩ := some_bind hl37
   refine OW.callG Tryd.call52 rfl (waybillref17_text_does w0 (More w0 Φ ((some b63, blk (u8s x45.address.toList) 60) :: B25)) ((ob30, blk (cs28 ++ r32) 61) :: (some b2, blk (u8s (Vector.replicate 256 0#8).toList) 27) :: (((some b63, blk (u8s x45.address.toList) 60) :: B25) ++ N)) (fun w m => More.of hΦ 2 m rfl) (some ⟨b63, 0, none⟩) 20 x45.address.toList x68 v65 hx67) rfl rfl ?_
   rintro L72 M73 ⟨B69, cs70, h71, e74, e75⟩
   rw [e74, e75]
   clear e74 e75 L72 M73
   refine OW.mem (M' := ((ob30, blk (cs28 ++ r32) 61) :: (some b2, blk (u8s (Vector.replicate 256 0#8).toList) 27) :: ((B69 ++ ((some b63, blk (u8s x45.address.toList) 60) :: B25)) ++ N))) (fun w m => by have h := Mem.sinkAt (A := B69) m 0 2 rfl rfl; exact h) ?_
   have gq4 : ∀ w, More w0 Φ (B69 ++ ((some b63, blk (u8s x45.address.toList) 60) :: B25)) w → More w0 Φ ((some b63, blk (u8s x45.address.toList) 60) :: B25) w := fun w q => More.mono (fun w m => (m).appR) q
   replace va0 := va0.mono gq4
   replace ha0 := ha0.mono (LogRd.mono gq4)
   replace h29 := h29.mono (BsRd.mono gq4)
   replace h60 := LogRd.mono gq4 _ _ h60
   replace v53 := v53.mono gq4
   replace h55 := h55.mono (Ar8Rd.mono gq4)
   replace v58 := v58.mono gq4
   replace v65 := v65.mono gq4
   replace h71 := ItRd.mono (Ψ := (More w0 Φ (B69 ++ ((some b63, blk (u8s x45.address.toList) 60) :: B25)))) (fun w q => More.flat q) _ _ h71
   have h85 := h71
   obtain ⟨A76, c77, A79, c80, cs82, e84, v78, v81, h83⟩ := ItRd.opn h71
   subst e84
   have m86 := v78.mx
   have m87 := v81.mx
   have m88 := v78.mx
   have m89 := v81.mx
   refine OW.alloc (l := [.bool false, .slice none 0 0, .slice none 0 0]) rfl rfl rfl (fun b90 => ?_)
   refine OW.sv (SV.storeW rfl rfl rfl (by intro u hu; simp at hu; rcases hu with rfl | rfl | rfl <;> rfl) rfl rfl rfl) ?_
   refine OW.nil (QW.then_n (CW.seq (CW.region (OW.rv (RV.move rfl) rfl (OW.rv (RV.field rfl rfl rfl rfl) rfl (OW.rv (RV.load rfl (List.Mem.head _) rfl rfl rfl rfl) rfl (OW.ofN (NV.bs1 rfl rfl rfl rfl rfl rfl) rfl (fun b91 => ?_))))))))
   have h94 : Reps (BsRd (More w0 Φ (B69 ++ ((some b63, blk (u8s x45.address.toList) 60) :: B25)))) (([.slice A76 x68.data.length c77] : List Value)) [x68.data] := Reps.one (BsRd.mk v78)
   refine OW.mem (M' := (((some b91), blk ((([.slice A76 x68.data.length c77] : List Value)) ++ []) 61) :: (some b90, blk [.bool (x68.list), .slice A76 x68.data.length c77, .slice A79 x68.items.length c80] 89) :: (ob30, blk (cs28 ++ r32) 61) :: (some b2, blk (u8s (Vector.replicate 256 0#8).toList) 27) :: ((B69 ++ ((some b63, blk (u8s x45.address.toList) 60) :: B25)) ++ N))) (fun w m => m) ?_
   have o92 : OwnS (some b91) ([x68.data] : List (List (BitVec 8))).length 1 1 (([.slice A76 x68.data.length c77] : List Value)) [] := ⟨by simp [BsRd], by simp [BsRd], (fun h => nomatch h), by simp⟩
   have mx_o92 := o92.mx
   refine OW.slot (sl (some b91) 0 ([x68.data] : List (List (BitVec 8))).length 1) (rfl) (OW.rot2 ?_)
   obtain ⟨g95, hl37⟩ := some_if hl37
   have h100 := h29.app h94
   refine OW.appendOwn (s := 1) rfl rfl rfl rfl rfl rfl o33 (fun w m => m.rd0 (List.Mem.tail _ (List.Mem.head _)) (fun e => o92.nilc (by decide) e)) o92.n (h94.cell1 BsRd.one) (o92.zeroO (by decide)) (by decide) (by decide) (by first | omega | (simp only [i61, List.length_nil]; omega)) rfl rfl ((l27 ++ ([x68.data] : List (List (BitVec 8)))).length) (cs28 ++ (([.slice A76 x68.data.length c77] : List Value))) (List.length_append ..).symm rfl (fun ob96 r97 c98 o99 => ?_)
   have m101 := o99.mx
   refine OW.rv (RV.assign rfl) rfl (OW.nil (QW.then_n (CW.seq (CW.region (OW.rv (RV.assign rfl) rfl (OW.nil (QW.then_n ?_)))))))
   obtain ⟨q102, hq103, hl37⟩ := some_bind hl37
   refine CW.cutJ (fun L' M' => ∃ l106 : List (List (BitVec 8)), ∃ B104 : List Ent, ∃ cs107 : List Value, ∃ ob109 : Option Nat, ∃ c110 : Nat, ∃ r111 : List Value, q102 = l106 ∧ (∀ w, Mem w0 w B104 → Mem w0 w (B69 ++ ((some b63, blk (u8s x45.address.toList) 60) :: B25))) ∧ (Reps (BsRd (More w0 Φ B104)) cs107 l106) ∧ (OwnS ob109 l106.length c110 1 cs107 r111) ∧ L' = [(0, .slice A0_ a0.length c0_), (2, ptr (some b2) 0), (3, sl ob109 0 l106.length c110), (4, .int .i64 ((n34 : Nat) : Int))] ∧ M' = ((ob109, blk (cs107 ++ r111) 61) :: (some b2, blk (u8s (Vector.replicate 256 0#8).toList) 27) :: (B104 ++ N))) ?_ ?_
   ·rintro L114 M115 ⟨l106, B104, cs107, ob109, c110, r111, e113, hB105, h108, o112, e116, e117⟩
    rw [e116, e117]
    clear e116 e117 L114 M115
    clear hq103
    rw [e113] at hl37
    clear e113
    try dsimp only at hl37
    have gq5 : ∀ w, More w0 Φ B104 w → More w0 Φ (B69 ++ ((some b63, blk (u8s x45.address.toList) 60) :: B25)) w := fun w q => More.mono (fun w m => hB105 w (m)) q
    replace va0 := va0.mono gq5
    replace ha0 := ha0.mono (LogRd.mono gq5)
    have m118 := o112.mx
    refine QW.block_n (QW.then_n (CW.region (OW.rv (RV.move rfl) rfl (OW.rv (RV.add rfl rfl (by omega)) rfl (OW.slot (.int .i64 (((n34 + 1) : Nat) : Int)) (by first | rfl | (congr 1) | (congr 1; omega)) (OW.rv (RV.assign rfl) rfl (OW.nil ?_)))))))
    exact QW.againJ (k' := k36) (Nat.lt_succ_self _) ⟨l106, (n34 + 1), B104, cs107, ob109, c110, r111, hl37, (fun w m => hB26 w (((hB105 w (m)).appR).tail)), h108, o112, (by omega), rfl, rfl⟩ ⟨rfl, rfl, rfl, rfl, trivial⟩ (fun w m => m.pick [0, 1] 2 rfl rfl)
   ·skip
    refine CW.block (CW.loopJ (fun k L' M' => ∃ l121 : List (List (BitVec 8)), ∃ n128 : Nat, ∃ B119 : List Ent, ∃ cs122 : List Value, ∃ ob124 : Option Nat, ∃ c125 : Nat, ∃ r126 : List Value, (waybillref17_BloomOf.l2 a0 n34 k l121 n128) = some q102 ∧ (∀ w, Mem w0 w B119 → Mem w0 w (B69 ++ ((some b63, blk (u8s x45.address.toList) 60) :: B25))) ∧ (Reps (BsRd (More w0 Φ B119)) cs122 l121) ∧ (OwnS ob124 l121.length c125 1 cs122 r126) ∧ (n128 ≤ 9223372036854775807) ∧ L' = [(0, .slice A0_ a0.length c0_), (2, ptr (some b2) 0), (3, sl ob124 0 l121.length c125), (4, .int .i64 ((n34 : Nat) : Int)), (7, .int .i64 ((n128 : Nat) : Int))] ∧ M' = ((ob124, blk (cs122 ++ r126) 61) :: (some b2, blk (u8s (Vector.replicate 256 0#8).toList) 27) :: (B119 ++ N))) (k0 := (((a0[n34]?)).elim 2 fun x132 => (x132.topics.length - 0 + 2))) ⟨(l27 ++ ([x68.data] : List (List (BitVec 8)))), 0, (B69 ++ ((some b63, blk (u8s x45.address.toList) 60) :: B25)), (cs28 ++ (([.slice A76 x68.data.length c77] : List Value))), ob96, c98, r97, hq103, (fun w m => m), h100, o99, (by omega), rfl, rfl⟩ ⟨rfl, rfl, rfl, rfl, rfl, trivial⟩ (fun w m => m.pick [0, 3] 4 rfl rfl) ?_)
    clear hq103
    rintro k130 L133 M134 ⟨l121, n128, B119, cs122, ob124, c125, r126, hl131, hB120, h123, o127, b129, e135, e136⟩
    rw [e135, e136]
    clear e135 e136 L133 M134
    rcases k130 with _ | k130
    ·rw [waybillref17_BloomOf.l2] at hl131; cases hl131
    rw [waybillref17_BloomOf.l2] at hl131
    have gq6 : ∀ w, More w0 Φ B119 w → More w0 Φ (B69 ++ ((some b63, blk (u8s x45.address.toList) 60) :: B25)) w := fun w q => More.mono (fun w m => hB120 w (m)) q
    replace va0 := va0.mono gq6
    replace ha0 := ha0.mono (LogRd.mono gq6)
    have m137 := o127.mx
    refine CW.seq (CW.seq (CW.region (OW.rv (RV.move rfl) rfl (OW.rv (RV.move rfl) rfl (OW.rv (RV.move rfl) rfl ?_)))))
    obtain ⟨x138, hx139, hl131⟩ := some_bind hl131
    have hl140 := lt_of_at hx139
    refine OW.rv (RV.idx_rs (n34) rfl rfl rfl rfl rfl (va0.isSome (by decide) hl140) (by omega)) rfl ?_
    obtain ⟨cs141, h142, h143⟩ := ha0.get LogRd.len hx139
    have h153 := h142
    obtain ⟨A144, c145, cs147, A149, c150, e152, v146, h148, v151⟩ := LogRd.opn h142
    subst e152
    have m154 := v146.mx
    have m155 := v151.mx
    refine OW.rv (RV.field_at rfl rfl rfl rfl) rfl (OW.rv (RV.load_at rfl rfl rfl (fun w m => va0.load_fld (More.of hΦ 2 m rfl) h143 (LogC.C_topics (⟨x138.address, .slice A144 x138.topics.length c145, .slice A149 x138.data.length c150⟩ : LogC)))) rfl (OW.rv (RV.len rfl rfl) rfl (OW.rv (RV.lss rfl rfl) rfl (OW.slot (.bool (decide (n128 < x138.topics.length))) (congrArg Value.bool (decide_eq_decide.2 (by omega))) (OW.nil (QW.then_n ?_))))))
    by_cases h156 : n128 < x138.topics.length
    ·replace hl131 := if_t hl131 h156
     refine CW.is_t rfl (decide_eq_true h156) (CW.skip (QW.then_n (CW.seq (CW.block (CW.seq (CW.region (OW.rv (RV.move rfl) rfl (OW.rv (RV.move rfl) rfl ?_))))))))
     obtain ⟨x157, hx158, hl131⟩ := some_bind hl131
     have hl159 := lt_of_at hx158
     refine OW.rv (RV.idx_rs (n34) rfl rfl rfl rfl rfl (va0.isSome (by decide) hl159) (by omega)) rfl ?_
     obtain ⟨cs160, h161, h162⟩ := ha0.get LogRd.len hx158
     have h172 := h161
     obtain ⟨A163, c164, cs166, A168, c169, e171, v165, h167, v170⟩ := LogRd.opn h161
     subst e171
     have m173 := v165.mx
     have m174 := v170.mx
     refine OW.rv (RV.field_at rfl rfl rfl rfl) rfl (OW.rv (RV.load_at rfl rfl rfl (fun w m => va0.load_fld (More.of hΦ 2 m rfl) h162 (LogC.C_topics (⟨x157.address, .slice A163 x157.topics.length c164, .slice A168 x157.data.length c169⟩ : LogC)))) rfl (OW.rv (RV.move rfl) rfl ?_))
     obtain ⟨x175, hx176, hl131⟩ := some_bind hl131
     have hl177 := lt_of_at hx176
     refine OW.rv (RV.idx_rs (n128) rfl rfl rfl rfl rfl (v165.isSome (by decide) hl177) (by omega)) rfl ?_
     obtain ⟨cs178, h179, h180⟩ := h167.get Ar8Rd.len hx176
     have h179a := h179
     subst h179a
     refine OW.rv (RV.loadAs rfl rfl rfl rfl (fun w m => v165.load (More.of hΦ 2 m rfl) h180) ((u8s_length _).trans Vector.length_toList)) rfl (OW.alloc (l := (u8s (Vector.replicate 32 0#8).toList)) rfl (by rw [Vector.toList_replicate, ← u8s_rep']; rfl) rfl (fun b181 => (OW.sv (SV.storeW rfl rfl rfl (u8s_one _) rfl ((u8s_length _).trans Vector.length_toList) ((u8s_length _).trans Vector.length_toList)) (OW.nil (QW.then_n (CW.seq (CW.region (OW.mem (M' := (ob124, blk (cs122 ++ r126) 61) :: (some b2, blk (u8s (Vector.replicate 256 0#8).toList) 27) :: (((some b181, blk (u8s x175.toList) 24) :: B119) ++ N)) (fun w m => m.pick [1, 2, 0] 3 rfl rfl) ?_))))))))
     have gq7 : ∀ w, More w0 Φ ((some b181, blk (u8s x175.toList) 24) :: B119) w → More w0 Φ B119 w := fun w q => More.mono (fun w m => (m).tail) q
     replace va0 := va0.mono gq7
     replace ha0 := ha0.mono (LogRd.mono gq7)
     replace h123 := h123.mono (BsRd.mono gq7)
     replace h153 := LogRd.mono gq7 _ _ h153
     replace v146 := v146.mono gq7
     replace h148 := h148.mono (Ar8Rd.mono gq7)
     replace v151 := v151.mono gq7
     replace h172 := LogRd.mono gq7 _ _ h172
     replace v165 := v165.mono gq7
     replace h167 := h167.mono (Ar8Rd.mono gq7)
     replace v170 := v170.mono gq7
     have v182 : View (More w0 Φ ((some b181, blk (u8s x175.toList) 24) :: B119)) (some ⟨b181, 0, none⟩) x175.toList.length 32 1 (u8s x175.toList) := View.arr (w0 := w0) (te := 24) (fun w q => q.2.sublist (List.singleton_sublist.2 (List.mem_cons_self ..))) (by decide)
     refine OW.rv (RV.arr_all rfl rfl rfl) rfl ?_
     refine OW.slot (.slice (some ⟨b181, 0, none⟩) x175.toList.length 32) (by rw [Vector.length_toList]; try rfl) ?_
     have v183 := v182
     have m184 := v183.mx
     obtain ⟨x186, hx185, hl131⟩ := some_bind hl131
     refine OW.callG Tryd.call52 rfl (waybillref17_text_does w0 (More w0 Φ ((some b181, blk (u8s x175.toList) 24) :: B119)) ((ob124, blk (cs122 ++ r126) 61) :: (some b2, blk (u8s (Vector.replicate 256 0#8).toList) 27) :: (((some b181, blk (u8s x175.toList) 24) :: B119) ++ N)) (fun w m => More.of hΦ 2 m rfl) (some ⟨b181, 0, none⟩) 32 x175.toList x186 v183 hx185) rfl rfl ?_
     rintro L190 M191 ⟨B187, cs188, h189, e192, e193⟩
     rw [e192, e193]
     clear e192 e193 L190 M191
     refine OW.mem (M' := ((ob124, blk (cs122 ++ r126) 61) :: (some b2, blk (u8s (Vector.replicate 256 0#8).toList) 27) :: ((B187 ++ ((some b181, blk (u8s x175.toList) 24) :: B119)) ++ N))) (fun w m => by have h := Mem.sinkAt (A := B187) m 0 2 rfl rfl; exact h) ?_
     have gq8 : ∀ w, More w0 Φ (B187 ++ ((some b181, blk (u8s x175.toList) 24) :: B119)) w → More w0 Φ ((some b181, blk (u8s x175.toList) 24) :: B119) w := fun w q => More.mono (fun w m => (m).appR) q
     replace va0 := va0.mono gq8
     replace ha0 := ha0.mono (LogRd.mono gq8)
     replace h123 := h123.mono (BsRd.mono gq8)
     replace h153 := LogRd.mono gq8 _ _ h153
     replace v146 := v146.mono gq8
     replace h148 := h148.mono (Ar8Rd.mono gq8)
     replace v151 := v151.mono gq8
     replace h172 := LogRd.mono gq8 _ _ h172
     replace v165 := v165.mono gq8
     replace h167 := h167.mono (Ar8Rd.mono gq8)
     replace v170 := v170.mono gq8
     replace v183 := v183.mono gq8
     replace h189 := ItRd.mono (Ψ := (More w0 Φ (B187 ++ ((some b181, blk (u8s x175.toList) 24) :: B119)))) (fun w q => More.flat q) _ _ h189
     have h203 := h189
     obtain ⟨A194, c195, A197, c198, cs200, e202, v196, v199, h201⟩ := ItRd.opn h189
     subst e202
     have m204 := v196.mx
     have m205 := v199.mx
     have m206 := v196.mx
     have m207 := v199.mx
     refine OW.alloc (l := [.bool false, .slice none 0 0, .slice none 0 0]) rfl rfl rfl (fun b208 => ?_)
     refine OW.sv (SV.storeW rfl rfl rfl (by intro u hu; simp at hu; rcases hu with rfl | rfl | rfl <;> rfl) rfl rfl rfl) ?_
     refine OW.nil (QW.then_n (CW.region (OW.rv (RV.move rfl) rfl (OW.rv (RV.field rfl rfl rfl rfl) rfl (OW.rv (RV.load rfl (List.Mem.head _) rfl rfl rfl rfl) rfl (OW.ofN (NV.bs1 rfl rfl rfl rfl rfl rfl) rfl (fun b209 => ?_)))))))
     have h212 : Reps (BsRd (More w0 Φ (B187 ++ ((some b181, blk (u8s x175.toList) 24) :: B119)))) (([.slice A194 x186.data.length c195] : List Value)) [x186.data] := Reps.one (BsRd.mk v196)
     refine OW.mem (M' := (((some b209), blk ((([.slice A194 x186.data.length c195] : List Value)) ++ []) 61) :: (some b208, blk [.bool (x186.list), .slice A194 x186.data.length c195, .slice A197 x186.items.length c198] 89) :: (ob124, blk (cs122 ++ r126) 61) :: (some b2, blk (u8s (Vector.replicate 256 0#8).toList) 27) :: ((B187 ++ ((some b181, blk (u8s x175.toList) 24) :: B119)) ++ N))) (fun w m => m) ?_
     have o210 : OwnS (some b209) ([x186.data] : List (List (BitVec 8))).length 1 1 (([.slice A194 x186.data.length c195] : List Value)) [] := ⟨by simp [BsRd], by simp [BsRd], (fun h => nomatch h), by simp⟩
     have mx_o210 := o210.mx
     refine OW.slot (sl (some b209) 0 ([x186.data] : List (List (BitVec 8))).length 1) (rfl) (OW.rot2 ?_)
     obtain ⟨g213, hl131⟩ := some_if hl131
     have h218 := h123.app h212
     refine OW.appendOwn (s := 1) rfl rfl rfl rfl rfl rfl o127 (fun w m => m.rd0 (List.Mem.tail _ (List.Mem.head _)) (fun e => o210.nilc (by decide) e)) o210.n (h212.cell1 BsRd.one) (o210.zeroO (by decide)) (by decide) (by decide) (by first | omega | (simp only [i61, List.length_nil]; omega)) rfl rfl ((l121 ++ ([x186.data] : List (List (BitVec 8)))).length) (cs122 ++ (([.slice A194 x186.data.length c195] : List Value))) (List.length_append ..).symm rfl (fun ob214 r215 c216 o217 => ?_)
     have m219 := o217.mx
     refine OW.rv (RV.assign rfl) rfl (OW.nil (QW.block_n (QW.then_n (CW.region (OW.rv (RV.move rfl) rfl (OW.rv (RV.add rfl rfl (by omega)) rfl (OW.slot (.int .i64 (((n128 + 1) : Nat) : Int)) (by first | rfl | (congr 1) | (congr 1; omega)) (OW.rv (RV.assign rfl) rfl (OW.nil ?_)))))))))
     exact QW.againJ (k' := k130) (Nat.lt_succ_self _) ⟨(l121 ++ ([x186.data] : List (List (BitVec 8)))), (n128 + 1), (B187 ++ ((some b181, blk (u8s x175.toList) 24) :: B119)), (cs122 ++ (([.slice A194 x186.data.length c195] : List Value))), ob214, c216, r215, hl131, (fun w m => hB120 w (((m).appR).tail)), h218, o217, (by omega), rfl, rfl⟩ ⟨rfl, rfl, rfl, rfl, rfl, trivial⟩ (fun w m => m.pick [0, 3] 4 rfl rfl)
    ·replace hl131 := if_f hl131 h156
     refine CW.is_f rfl (decide_eq_false h156) (CW.exit (QW.then_x (QW.then_x (QW.block_xe ?_))))
     exact QW.join ⟨l121, B119, cs122, ob124, c125, r126, (Option.some.inj hl131).symm, (fun w m => hB120 w (m)), h123, o127, rfl, rfl⟩ ⟨rfl, rfl, rfl, rfl, trivial⟩ (fun w m => m.pick [0, 1] 2 rfl rfl)
  ·replace hl37 := if_f hl37 h44
   refine CW.is_f rfl (decide_eq_false h44) (CW.exit (QW.then_x (QW.then_x (QW.block_xe ?_))))
   exact QW.join ⟨l27, B25, cs28, ob30, c31, r32, (Option.some.inj hl37).symm, (fun w m => hB26 w (m)), h29, o33, rfl, rfl⟩ ⟨rfl, rfl, trivial⟩ (fun w m => m.pick [0, 1] 2 rfl rfl)
theorem waybillref17_Check_does (w0 : World) (Φ : Ctx) (N : List Ent) (hΦ : ∀ w, Mem w0 w N → Φ w) (cs0_ : List Value) (a0 : Rcpt) (res0 : Nat) (ha0 : RcptRd Φ cs0_ a0) (hTn : ∀ i, i < 25 → w0.cell? ⟨4, i, none⟩ = some (.int .i64 (turnsL.getD i 0))) (hRn : ∀ i, i < 24 → w0.cell? ⟨3, i, none⟩ = some (U64 (g64 roundsL i))) (hf : waybillref17_Check a0 = some res0) : DoesG Tryd.prog 37 [.agg cs0_.toArray] w0 [] N (fun v G => (res0 ≤ 9223372036854775807) ∧ v = .int .i64 ((res0 : Nat) : Int)) := by
 unfold waybillref17_Check at hf
 replace ha0 := RcptRd.mono (Ψ := More w0 Φ []) (fun w q => q.1) _ _ ha0
 have h8 := ha0
 obtain ⟨A2, c3, cs5, e7, b1, v4, h6⟩ := RcptRd.opn ha0
 subst e7
 have m9 := v4.mx
 refine DoesG.enter Tryd.func37 rfl Tryd.ntmps37 rfl (M := (([] ++ N))) rfl (CW.seq (CW.region (OW.boxA rfl rfl (fun b10 => (OW.rv (RV.assign rfl) rfl (OW.nil (QW.then_n (CW.seq (CW.seq ?_)))))))))
 obtain ⟨q11, hq12, hf⟩ := some_bind hf
 refine CW.cutJ (fun L' M' => ∃ p13 : Bool, q11 = p13 ∧ L' = [(1, ptr (some b10) 0), (11, .bool (p13))] ∧ M' = ((some b10, blk (⟨a0.kind, (a0.rooted), a0.root, a0.status, a0.used, a0.bloom, .slice A2 a0.logs.length c3⟩ : RcptC).C 30) :: ([] ++ N))) ?_ ?_
 ·rintro L15 M16 ⟨p13, e14, e17, e18⟩
  rw [e17, e18]
  clear e17 e18 L15 M16
  clear hq12
  rw [e14] at hf
  clear e14
  try dsimp only at hf
  refine QW.then_n ?_
  by_cases h19 : p13 = true
  ·replace hf := if_t hf h19
   refine CW.is_t rfl (h19) (CW.seq (CW.region (OW.rv (RV.assign rfl) rfl (OW.nil (QW.then_n (CW.ret (QW.then_r ?_)))))))
   have e0 := Option.some.inj hf
   subst e0
   refine QW.retG (rs := [.tmp 2]) ([.int .i64 (170 : Int)]) ((some b10, blk (⟨a0.kind, (a0.rooted), a0.root, a0.status, a0.used, a0.bloom, .slice A2 a0.logs.length c3⟩ : RcptC).C 30) :: []) rfl ?_ rfl ?_ ?_ _ (.inl rfl)
   ·exact ⟨rfl, trivial⟩
   ·exact ⟨(by omega), rfl⟩
   ·exact (fun w m => m)
  ·replace hf := if_f hf h19
   refine CW.is_f rfl (Bool.eq_false_iff.2 h19) (CW.skip (QW.then_n (CW.seq (CW.seq ?_))))
   obtain ⟨q20, hq21, hf⟩ := some_bind hf
   refine CW.cutJ (fun L' M' => ∃ p22 : Bool, q20 = p22 ∧ L' = [(1, ptr (some b10) 0), (23, .bool (p22))] ∧ M' = ((some b10, blk (⟨a0.kind, (a0.rooted), a0.root, a0.status, a0.used, a0.bloom, .slice A2 a0.logs.length c3⟩ : RcptC).C 30) :: ([] ++ N))) ?_ ?_
   ·rintro L24 M25 ⟨p22, e23, e26, e27⟩
    rw [e26, e27]
    clear e26 e27 L24 M25
    clear hq21
    rw [e23] at hf
    clear e23
    try dsimp only at hf
    refine QW.then_n ?_
    by_cases h28 : p22 = true
    ·replace hf := if_t hf h28
     refine CW.is_t rfl (h28) (CW.seq (CW.region (OW.rv (RV.assign rfl) rfl (OW.nil (QW.then_n (CW.ret (QW.then_r ?_)))))))
     have e0 := Option.some.inj hf
     subst e0
     refine QW.retG (rs := [.tmp 2]) ([.int .i64 (172 : Int)]) ((some b10, blk (⟨a0.kind, (a0.rooted), a0.root, a0.status, a0.used, a0.bloom, .slice A2 a0.logs.length c3⟩ : RcptC).C 30) :: []) rfl ?_ rfl ?_ ?_ _ (.inl rfl)
     ·exact ⟨rfl, trivial⟩
     ·exact ⟨(by omega), rfl⟩
     ·exact (fun w m => m)
    ·replace hf := if_f hf h28
     refine CW.is_f rfl (Bool.eq_false_iff.2 h28) (CW.skip (QW.then_n (CW.seq (CW.seq ?_))))
     obtain ⟨q29, hq30, hf⟩ := some_bind hf
     refine CW.cutJ (fun L' M' => ∃ p31 : Bool, q29 = p31 ∧ L' = [(1, ptr (some b10) 0), (37, .bool (p31))] ∧ M' = ((some b10, blk (⟨a0.kind, (a0.rooted), a0.root, a0.status, a0.used, a0.bloom, .slice A2 a0.logs.length c3⟩ : RcptC).C 30) :: ([] ++ N))) ?_ ?_
     ·rintro L33 M34 ⟨p31, e32, e35, e36⟩
      rw [e35, e36]
      clear e35 e36 L33 M34
      clear hq30
      rw [e32] at hf
      clear e32
      try dsimp only at hf
      refine QW.then_n ?_
      by_cases h37 : p31 = true
      ·replace hf := if_t hf h37
       refine CW.is_t rfl (h37) (CW.seq (CW.region (OW.rv (RV.assign rfl) rfl (OW.nil (QW.then_n (CW.ret (QW.then_r ?_)))))))
       have e0 := Option.some.inj hf
       subst e0
       refine QW.retG (rs := [.tmp 2]) ([.int .i64 (172 : Int)]) ((some b10, blk (⟨a0.kind, (a0.rooted), a0.root, a0.status, a0.used, a0.bloom, .slice A2 a0.logs.length c3⟩ : RcptC).C 30) :: []) rfl ?_ rfl ?_ ?_ _ (.inl rfl)
       ·exact ⟨rfl, trivial⟩
       ·exact ⟨(by omega), rfl⟩
       ·exact (fun w m => m)
      ·replace hf := if_f hf h37
       refine CW.is_f rfl (Bool.eq_false_iff.2 h37) (CW.skip (QW.then_n (CW.seq (CW.seq (CW.region (OW.rv (RV.assign rfl) rfl (OW.nil (QW.then_n ?_))))))))
       obtain ⟨q38, hq39, hf⟩ := some_bind hf
       refine CW.cutJ (fun L' M' => q38 = Lp.go () ∧ L' = [(1, ptr (some b10) 0)] ∧ M' = ((some b10, blk (⟨a0.kind, (a0.rooted), a0.root, a0.status, a0.used, a0.bloom, .slice A2 a0.logs.length c3⟩ : RcptC).C 30) :: ([] ++ N))) ?_ ?_
       ·rintro L41 M42 ⟨e40, e43, e44⟩
        rw [e43, e44]
        clear e43 e44 L41 M42
        clear hq39
        rw [e40] at hf
        clear e40
        try dsimp only at hf
        refine QW.then_n (CW.seq (CW.seq (CW.drawsU 6 mixed (by kernel_rfl) rfl (UW.rv 0 rfl (by kernel_rfl) rfl (RV.field rfl rfl rfl rfl) rfl (UW.slot (ptr (some b10) 36) rfl (UW.rv 1 rfl (by kernel_rfl) rfl (RV.loadAo rfl (List.Mem.head _) rfl rfl rfl rfl (RcptC.C_bloom_all (⟨a0.kind, (a0.rooted), a0.root, a0.status, a0.used, a0.bloom, .slice A2 a0.logs.length c3⟩ : RcptC)) ((u8s_length _).trans Vector.length_toList)) rfl (UW.rv 2 rfl (by kernel_rfl) rfl (RV.field rfl rfl rfl rfl) rfl (UW.slot (ptr (some b10) 292) rfl (UW.rv 3 rfl (by kernel_rfl) rfl (RV.load rfl (List.Mem.head _) rfl rfl rfl (RcptC.C_logs (⟨a0.kind, (a0.rooted), a0.root, a0.status, a0.used, a0.bloom, .slice A2 a0.logs.length c3⟩ : RcptC))) rfl ?_)))))))))
        obtain ⟨x46, hx45, hf⟩ := some_bind hf
        refine UW.callG 4 rfl (by kernel_rfl) rfl Tryd.call29 rfl (fun N' hN' => waybillref17_BloomOf_does w0 (More w0 Φ []) N' (fun w m => More.of hΦ 1 (hN' w m) rfl) A2 c3 cs5 a0.logs x46 v4 h6 hTn hRn hx45) rfl ?_
        rintro _ G47 rfl
        refine UW.mem (M' := ((some b10, blk (⟨a0.kind, (a0.rooted), a0.root, a0.status, a0.used, a0.bloom, .slice A2 a0.logs.length c3⟩ : RcptC).C 30) :: ([] ++ N))) (fun w m => m.appR) (UW.rv 5 rfl (by kernel_rfl) rfl (RV.neA8 rfl rfl rfl rfl rfl rfl (Vector.length_toList) (Vector.length_toList)) rfl (UW.slot (.bool (!decide (a0.bloom = x46))) (congrArg (fun b => Value.bool (!b)) (decide_eq_decide.2 Vector.toList_inj)) (UW.nil (by kernel_rfl) (OW.nil (QW.then_n ?_)))))
        by_cases h49 : a0.bloom = x46
        ·replace hf := if_t hf h49
         refine CW.is_f rfl (congrArg (fun b => !b) (decide_eq_true h49)) (CW.skip (QW.then_n (CW.seq (CW.region (OW.rv (RV.assign rfl) rfl (OW.nil (QW.then_n (CW.ret ?_))))))))
         have e0 := Option.some.inj hf
         subst e0
         refine QW.retG (rs := [.tmp 2]) ([.int .i64 (0 : Int)]) ((some b10, blk (⟨a0.kind, (a0.rooted), a0.root, a0.status, a0.used, a0.bloom, .slice A2 a0.logs.length c3⟩ : RcptC).C 30) :: []) rfl ?_ rfl ?_ ?_ _ (.inl rfl)
         ·exact ⟨rfl, trivial⟩
         ·exact ⟨(by omega), rfl⟩
         ·exact (fun w m => m)
        ·replace hf := if_f hf h49
         refine CW.is_t rfl (congrArg (fun b => !b) (decide_eq_false h49)) (CW.seq (CW.region (OW.rv (RV.assign rfl) rfl (OW.nil (QW.then_n (CW.ret (QW.then_r ?_)))))))
         have e0 := Option.some.inj hf
         subst e0
         refine QW.retG (rs := [.tmp 2]) ([.int .i64 (173 : Int)]) ((some b10, blk (⟨a0.kind, (a0.rooted), a0.root, a0.status, a0.used, a0.bloom, .slice A2 a0.logs.length c3⟩ : RcptC).C 30) :: []) rfl ?_ rfl ?_ ?_ _ (.inl rfl)
         ·exact ⟨rfl, trivial⟩
         ·exact ⟨(by omega), rfl⟩
         ·exact (fun w m => m)
       ·skip
        refine CW.block (CW.loopJ (fun k L' M' => ∃ n50 : Nat, (waybillref17_Check.l1 a0 k n50) = some q38 ∧ (n50 ≤ 9223372036854775807) ∧ L' = [(1, ptr (some b10) 0), (3, .int .i64 ((n50 : Nat) : Int))] ∧ M' = ((some b10, blk (⟨a0.kind, (a0.rooted), a0.root, a0.status, a0.used, a0.bloom, .slice A2 a0.logs.length c3⟩ : RcptC).C 30) :: ([] ++ N))) (k0 := (a0.logs.length - 0 + 2)) ⟨0, hq39, (by omega), rfl, rfl⟩ ⟨rfl, rfl, trivial⟩ (fun w m => m.pick [0] 1 rfl rfl) ?_)
        clear hq39
        rintro k52 L55 M56 ⟨n50, hl53, b51, e57, e58⟩
        rw [e57, e58]
        clear e57 e58 L55 M56
        rcases k52 with _ | k52
        ·rw [waybillref17_Check.l1] at hl53; cases hl53
        rw [waybillref17_Check.l1] at hl53
        refine CW.seq (CW.seq (CW.region (OW.rv (RV.move rfl) rfl (OW.rv (RV.field rfl rfl rfl rfl) rfl (OW.slot (ptr (some b10) 292) rfl (OW.rv (RV.load rfl (List.Mem.head _) rfl rfl rfl (RcptC.C_logs (⟨a0.kind, (a0.rooted), a0.root, a0.status, a0.used, a0.bloom, .slice A2 a0.logs.length c3⟩ : RcptC))) rfl (OW.rv (RV.len rfl rfl) rfl (OW.rv (RV.lss rfl rfl) rfl (OW.slot (.bool (decide (n50 < a0.logs.length))) (congrArg Value.bool (decide_eq_decide.2 (by omega))) ?_)))))))))
        refine OW.nil (QW.then_n ?_)
        by_cases h59 : n50 < a0.logs.length
        ·replace hl53 := if_t hl53 h59
         refine CW.is_t rfl (decide_eq_true h59) (CW.skip (QW.then_n (CW.seq (CW.block (CW.seq (CW.region (OW.rv (RV.field rfl rfl rfl rfl) rfl (OW.slot (ptr (some b10) 292) rfl (OW.rv (RV.load rfl (List.Mem.head _) rfl rfl rfl (RcptC.C_logs (⟨a0.kind, (a0.rooted), a0.root, a0.status, a0.used, a0.bloom, .slice A2 a0.logs.length c3⟩ : RcptC))) rfl (OW.rv (RV.move rfl) rfl ?_))))))))))
         obtain ⟨x60, hx61, hl53⟩ := some_bind hl53
         have hl62 := lt_of_at hx61
         refine OW.rv (RV.idx_rs (n50) rfl rfl rfl rfl rfl (v4.isSome (by decide) hl62) (by omega)) rfl ?_
         obtain ⟨cs63, h64, h65⟩ := h6.get LogRd.len hx61
         have h75 := h64
         obtain ⟨A66, c67, cs69, A71, c72, e74, v68, h70, v73⟩ := LogRd.opn h64
         subst e74
         have m76 := v68.mx
         have m77 := v73.mx
         refine OW.rv (RV.field_at rfl rfl rfl rfl) rfl (OW.rv (RV.load_at rfl rfl rfl (fun w m => v4.load_fld (More.of hΦ 1 m rfl) h65 (LogC.C_topics (⟨x60.address, .slice A66 x60.topics.length c67, .slice A71 x60.data.length c72⟩ : LogC)))) rfl (OW.rv (RV.len rfl rfl) rfl (OW.rv (RV.gtr rfl rfl) rfl (OW.slot (.bool (decide (4 < x60.topics.length))) (congrArg Value.bool (decide_eq_decide.2 (by omega))) (OW.nil (QW.then_n ?_))))))
         by_cases h78 : 4 < x60.topics.length
         ·replace hl53 := if_t hl53 h78
          refine CW.is_t rfl (decide_eq_true h78) (CW.seq (CW.region (OW.rv (RV.assign rfl) rfl (OW.nil (QW.then_n (CW.ret (QW.block_r (QW.then_r (QW.then_r (QW.block_r (QW.then_r ?_)))))))))))
          have hc := Option.some.inj hl53
          subst hc
          try dsimp only at hf
          refine QW.then_r ?_
          have e0 := Option.some.inj hf
          subst e0
          refine QW.retG (rs := [.tmp 2]) ([.int .i64 (174 : Int)]) ((some b10, blk (⟨a0.kind, (a0.rooted), a0.root, a0.status, a0.used, a0.bloom, .slice A2 a0.logs.length c3⟩ : RcptC).C 30) :: []) rfl ?_ rfl ?_ ?_ _ (.inl rfl)
          ·exact ⟨rfl, trivial⟩
          ·exact ⟨(by omega), rfl⟩
          ·exact (fun w m => m)
         ·replace hl53 := if_f hl53 h78
          refine CW.is_f rfl (decide_eq_false h78) (CW.skip (QW.block_n (QW.then_n (CW.region (OW.rv (RV.move rfl) rfl (OW.rv (RV.add rfl rfl (by omega)) rfl (OW.slot (.int .i64 (((n50 + 1) : Nat) : Int)) (by first | rfl | (congr 1) | (congr 1; omega)) (OW.rv (RV.assign rfl) rfl (OW.nil ?_)))))))))
          exact QW.againJ (k' := k52) (Nat.lt_succ_self _) ⟨(n50 + 1), hl53, (by omega), rfl, rfl⟩ ⟨rfl, rfl, trivial⟩ (fun w m => m.pick [0] 1 rfl rfl)
        ·replace hl53 := if_f hl53 h59
         refine CW.is_f rfl (decide_eq_false h59) (CW.exit (QW.then_x (QW.then_x (QW.block_xe ?_))))
         exact QW.join ⟨(Option.some.inj hl53).symm, rfl, rfl⟩ ⟨rfl, trivial⟩ (fun w m => m.pick [0] 1 rfl rfl)
     ·skip
      refine CW.region (OW.rv (RV.field rfl rfl rfl rfl) rfl (OW.slot (ptr (some b10) 1) rfl (OW.rv (RV.load rfl (List.Mem.head _) rfl rfl rfl (RcptC.C_rooted (⟨a0.kind, (a0.rooted), a0.root, a0.status, a0.used, a0.bloom, .slice A2 a0.logs.length c3⟩ : RcptC))) rfl (OW.rv (RV.not rfl) rfl (OW.rv (RV.move rfl) rfl ?_)))))
      by_cases h79 : a0.rooted = true
      ·replace hq30 := if_t hq30 h79
       refine OW.slot (.bool false) (congrArg Value.bool (congrArg (fun b => !b) (h79))) (OW.skip rfl rfl rfl (OW.skip rfl rfl rfl (OW.skip rfl rfl rfl (OW.skip rfl rfl rfl (OW.skip rfl rfl rfl (OW.skip rfl rfl rfl (OW.skip rfl rfl rfl ?_)))))))
       refine OW.skip rfl rfl rfl (OW.skip rfl rfl rfl (OW.rv (RV.pick_f rfl rfl rfl) rfl (OW.nil ?_)))
       exact QW.join ⟨false, (Option.some.inj hq30).symm, rfl, rfl⟩ ⟨rfl, rfl, trivial⟩ (fun w m => m.pick [0] 1 rfl rfl)
      ·replace hq30 := if_f hq30 h79
       refine OW.slot (.bool true) (congrArg Value.bool (congrArg (fun b => !b) (Bool.eq_false_iff.2 h79))) (OW.want rfl (OW.rv (RV.field rfl rfl rfl rfl) rfl (OW.slot (ptr (some b10) 2) rfl (OW.want rfl (OW.rv (RV.loadAo rfl (List.Mem.head _) rfl rfl rfl rfl (RcptC.C_root_all (⟨a0.kind, (a0.rooted), a0.root, a0.status, a0.used, a0.bloom, .slice A2 a0.logs.length c3⟩ : RcptC)) ((u8s_length _).trans Vector.length_toList)) rfl (OW.want rfl (OW.rv (RV.build0 (l := (u8s (Vector.replicate 32 0#8).toList)) rfl rfl rfl (by rw [Vector.toList_replicate, ← u8s_rep']; rfl)) rfl ?_)))))))
       refine OW.want rfl (OW.rv (RV.neA8 rfl rfl rfl rfl rfl rfl (Vector.length_toList) (Vector.length_toList)) rfl (OW.slot (.bool (!decide (a0.root = (Vector.replicate 32 0#8)))) (congrArg (fun b => Value.bool (!b)) (decide_eq_decide.2 Vector.toList_inj)) (OW.want rfl (OW.rv (RV.move rfl) rfl ?_))))
       by_cases h80 : a0.root = (Vector.replicate 32 0#8)
       ·replace hq30 := if_t hq30 h80
        refine OW.slot (.bool false) (congrArg Value.bool (congrArg (fun b => !b) (decide_eq_true h80))) (OW.want rfl (OW.rv (RV.field rfl rfl rfl rfl) rfl (OW.slot (ptr (some b10) 34) rfl (OW.want rfl (OW.rv (RV.load rfl (List.Mem.head _) rfl rfl rfl (RcptC.C_status (⟨a0.kind, (a0.rooted), a0.root, a0.status, a0.used, a0.bloom, .slice A2 a0.logs.length c3⟩ : RcptC))) rfl (OW.want rfl (OW.rv (RV.gtr rfl rfl) rfl ?_)))))))
        refine OW.slot (.bool (decide (1 < a0.status.toNat))) (congrArg Value.bool (decide_eq_decide.2 (by first | omega | (simp; omega) | simp))) (OW.want rfl (OW.rv (RV.pick_f rfl rfl rfl) rfl (OW.rv (RV.pick_t rfl rfl rfl) rfl (OW.nil ?_))))
        exact QW.join ⟨(decide (1 < a0.status.toNat)), (Option.some.inj hq30).symm, rfl, rfl⟩ ⟨rfl, rfl, trivial⟩ (fun w m => m.pick [0] 1 rfl rfl)
       ·replace hq30 := if_f hq30 h80
        refine OW.slot (.bool true) (congrArg Value.bool (congrArg (fun b => !b) (decide_eq_false h80))) (OW.skip rfl rfl rfl (OW.skip rfl rfl rfl (OW.skip rfl rfl rfl (OW.want rfl (OW.rv (RV.pick_t rfl rfl rfl) rfl (OW.rv (RV.pick_t rfl rfl rfl) rfl (OW.nil ?_)))))))
        exact QW.join ⟨true, (Option.some.inj hq30).symm, rfl, rfl⟩ ⟨rfl, rfl, trivial⟩ (fun w m => m.pick [0] 1 rfl rfl)
   ·skip
    refine CW.region (OW.rv (RV.field rfl rfl rfl rfl) rfl (OW.slot (ptr (some b10) 1) rfl (OW.rv (RV.load rfl (List.Mem.head _) rfl rfl rfl (RcptC.C_rooted (⟨a0.kind, (a0.rooted), a0.root, a0.status, a0.used, a0.bloom, .slice A2 a0.logs.length c3⟩ : RcptC))) rfl (OW.rv (RV.move rfl) rfl ?_))))
    by_cases h81 : a0.rooted = true
    ·replace hq21 := if_t hq21 h81
     refine OW.slot (.bool true) (congrArg Value.bool (h81)) (OW.want rfl (OW.rv (RV.field rfl rfl rfl rfl) rfl (OW.slot (ptr (some b10) 0) rfl (OW.want rfl (OW.rv (RV.load rfl (List.Mem.head _) rfl rfl rfl (RcptC.C_kind (⟨a0.kind, (a0.rooted), a0.root, a0.status, a0.used, a0.bloom, .slice A2 a0.logs.length c3⟩ : RcptC))) rfl (OW.want rfl (OW.rv (RV.neq rfl rfl) rfl ?_)))))))
     refine OW.want rfl (OW.rv (RV.move rfl) rfl ?_)
     by_cases h82 : a0.kind = (0 : Int)
     ·replace hq21 := if_t hq21 h82
      refine OW.slot (.bool false) (congrArg Value.bool (congrArg (fun b => !b) (decide_eq_true h82))) (OW.want rfl (OW.rv (RV.field rfl rfl rfl rfl) rfl (OW.slot (ptr (some b10) 34) rfl (OW.want rfl (OW.rv (RV.load rfl (List.Mem.head _) rfl rfl rfl (RcptC.C_status (⟨a0.kind, (a0.rooted), a0.root, a0.status, a0.used, a0.bloom, .slice A2 a0.logs.length c3⟩ : RcptC))) rfl (OW.want rfl (OW.rv (RV.neq64 rfl (by first | rfl | exact lit64 _ rfl) rfl (by first | rfl | exact lit64 _ rfl)) rfl ?_)))))))
      refine OW.want rfl (OW.rv (RV.pick_f rfl rfl rfl) rfl (OW.rv (RV.pick_t rfl rfl rfl) rfl (OW.nil ?_)))
      exact QW.join ⟨(!decide (a0.status = 0#64)), (Option.some.inj hq21).symm, rfl, rfl⟩ ⟨rfl, rfl, trivial⟩ (fun w m => m.pick [0] 1 rfl rfl)
     ·replace hq21 := if_f hq21 h82
      refine OW.slot (.bool true) (congrArg Value.bool (congrArg (fun b => !b) (decide_eq_false h82))) (OW.skip rfl rfl rfl (OW.skip rfl rfl rfl (OW.skip rfl rfl rfl (OW.want rfl (OW.rv (RV.pick_t rfl rfl rfl) rfl (OW.rv (RV.pick_t rfl rfl rfl) rfl (OW.nil ?_)))))))
      exact QW.join ⟨true, (Option.some.inj hq21).symm, rfl, rfl⟩ ⟨rfl, rfl, trivial⟩ (fun w m => m.pick [0] 1 rfl rfl)
    ·replace hq21 := if_f hq21 h81
     refine OW.slot (.bool false) (congrArg Value.bool (Bool.eq_false_iff.2 h81)) (OW.skip rfl rfl rfl (OW.skip rfl rfl rfl (OW.skip rfl rfl rfl (OW.skip rfl rfl rfl (OW.skip rfl rfl rfl (OW.skip rfl rfl rfl (OW.skip rfl rfl rfl ?_)))))))
     refine OW.skip rfl rfl rfl (OW.rv (RV.pick_f rfl rfl rfl) rfl (OW.nil ?_))
     exact QW.join ⟨false, (Option.some.inj hq21).symm, rfl, rfl⟩ ⟨rfl, rfl, trivial⟩ (fun w m => m.pick [0] 1 rfl rfl)
 ·skip
  refine CW.region (OW.rv (RV.field rfl rfl rfl rfl) rfl (OW.slot (ptr (some b10) 0) rfl (OW.rv (RV.load rfl (List.Mem.head _) rfl rfl rfl (RcptC.C_kind (⟨a0.kind, (a0.rooted), a0.root, a0.status, a0.used, a0.bloom, .slice A2 a0.logs.length c3⟩ : RcptC))) rfl (OW.rv (RV.lss rfl rfl) rfl (OW.rv (RV.move rfl) rfl ?_)))))
  by_cases h83 : a0.kind < (0 : Int)
  ·replace hq12 := if_t hq12 h83
   refine OW.slot (.bool true) (congrArg Value.bool (decide_eq_true h83)) (OW.skip rfl rfl rfl (OW.skip rfl rfl rfl (OW.skip rfl rfl rfl (OW.rv (RV.pick_t rfl rfl rfl) rfl (OW.nil ?_)))))
   exact QW.join ⟨true, (Option.some.inj hq12).symm, rfl, rfl⟩ ⟨rfl, rfl, trivial⟩ (fun w m => m.pick [0] 1 rfl rfl)
  ·replace hq12 := if_f hq12 h83
   refine OW.slot (.bool false) (congrArg Value.bool (decide_eq_false h83)) (OW.want rfl (OW.rv (RV.field rfl rfl rfl rfl) rfl (OW.slot (ptr (some b10) 0) rfl (OW.want rfl (OW.rv (RV.load rfl (List.Mem.head _) rfl rfl rfl (RcptC.C_kind (⟨a0.kind, (a0.rooted), a0.root, a0.status, a0.used, a0.bloom, .slice A2 a0.logs.length c3⟩ : RcptC))) rfl (OW.want rfl (OW.rv (RV.gtr rfl rfl) rfl ?_)))))))
   refine OW.rv (RV.pick_f rfl rfl rfl) rfl (OW.nil ?_)
   exact QW.join ⟨(decide ((4 : Int) < a0.kind)), (Option.some.inj hq12).symm, rfl, rfl⟩ ⟨rfl, rfl, trivial⟩ (fun w m => m.pick [0] 1 rfl rfl)
theorem waybillref17_clone_does (w0 : World) (Φ : Ctx) (N : List Ent) (hΦ : ∀ w, Mem w0 w N → Φ w) (A0_ : Option Addr) (c0_ : Nat) (cs0_ : List Value) (a0 : List (Log)) (res0 : List (Log)) (va0 : View Φ A0_ a0.length c0_ 22 cs0_) (ha0 : Reps (LogRd Φ) cs0_ a0) (hf : waybillref17_clone a0 = some res0) : DoesG Tryd.prog 50 [.slice A0_ a0.length c0_] w0 [] N (fun v G => ∃ B : List Ent, ∃ cr0 : List Value, ∃ or0 : Option Nat, ∃ kr0 : Nat, ∃ rr0 : List Value, (Reps (LogRd (More w0 Φ B)) cr0 res0) ∧ (OwnS or0 res0.length kr0 22 cr0 rr0) ∧ v = sl or0 0 res0.length kr0 ∧ G = (or0, blk (cr0 ++ rr0) 63) :: B) := by
 unfold waybillref17_clone at hf
 replace va0 := va0.mono (Ψ := More w0 Φ []) (fun w q => q.1)
 replace ha0 := ha0.mono (LogRd.mono (Ψ := More w0 Φ []) (fun w q => q.1))
 have m1 := va0.mx
 refine DoesG.enter Tryd.func50 rfl Tryd.ntmps50 rfl (M := (([] ++ N))) rfl (CW.seq (CW.region (OW.rv (RV.assign rfl) rfl (OW.nil (QW.then_n (CW.seq (CW.region (OW.rv (RV.assign rfl) rfl (OW.nil (QW.then_n (CW.seq (CW.seq (CW.region (OW.rv (RV.assign rfl) rfl (OW.nil (QW.then_n ?_))))))))))))))))
 obtain ⟨q2, hq3, hf⟩ := some_bind hf
 refine CW.cutJ (fun L' M' => ∃ l6 : List (Log), ∃ B4 : List Ent, ∃ cs7 : List Value, ∃ ob9 : Option Nat, ∃ c10 : Nat, ∃ r11 : List Value, q2 = l6 ∧ (∀ w, Mem w0 w B4 → Mem w0 w []) ∧ (Reps (LogRd (More w0 Φ B4)) cs7 l6) ∧ (OwnS ob9 l6.length c10 22 cs7 r11) ∧ L' = [(3, sl ob9 0 l6.length c10)] ∧ M' = ((ob9, blk (cs7 ++ r11) 63) :: (B4 ++ N))) ?_ ?_
 ·rintro L14 M15 ⟨l6, B4, cs7, ob9, c10, r11, e13, hB5, h8, o12, e16, e17⟩
  rw [e16, e17]
  clear e16 e17 L14 M15
  clear hq3
  rw [e13] at hf
  clear e13
  try dsimp only at hf
  have m18 := o12.mx
  refine QW.then_n (CW.seq (CW.region (OW.rv (RV.move rfl) rfl (OW.rv (RV.assign rfl) rfl (OW.nil (QW.then_n (CW.ret ?_)))))))
  have e0 := Option.some.inj hf
  subst e0
  refine QW.retG (rs := [.tmp 2]) ([sl ob9 0 l6.length c10]) ((ob9, blk (cs7 ++ r11) 63) :: B4) rfl ?_ rfl ?_ ?_ _ (.inl rfl)
  ·exact ⟨rfl, trivial⟩
  ·exact ⟨B4, cs7, ob9, c10, r11, h8, o12, rfl, rfl⟩
  ·exact (fun w m => m.pick [0] 1 rfl rfl)
 ·skip
  refine CW.block (CW.mem (M' := ((none, blk ([] ++ []) 63) :: ([] ++ N))) (fun w m => m.nil_ent _) (CW.loopJ (fun k L' M' => ∃ l21 : List (Log), ∃ n28 : Nat, ∃ B19 : List Ent, ∃ cs22 : List Value, ∃ ob24 : Option Nat, ∃ c25 : Nat, ∃ r26 : List Value, (waybillref17_clone.l1 a0 k l21 n28) = some q2 ∧ (∀ w, Mem w0 w B19 → Mem w0 w []) ∧ (Reps (LogRd (More w0 Φ B19)) cs22 l21) ∧ (OwnS ob24 l21.length c25 22 cs22 r26) ∧ (n28 ≤ 9223372036854775807) ∧ L' = [(0, .slice A0_ a0.length c0_), (3, sl ob24 0 l21.length c25), (4, .int .i64 ((n28 : Nat) : Int))] ∧ M' = ((ob24, blk (cs22 ++ r26) 63) :: (B19 ++ N))) (k0 := (a0.length - 0 + 2)) ⟨([] : List (Log)), 0, [], [], none, 0, [], hq3, (fun w m => m), Reps.nil, OwnS.nil, (by omega), rfl, rfl⟩ ⟨rfl, rfl, rfl, trivial⟩ (fun w m => m.pick [0] 1 rfl rfl) ?_))
  clear hq3
  rintro k30 L33 M34 ⟨l21, n28, B19, cs22, ob24, c25, r26, hl31, hB20, h23, o27, b29, e35, e36⟩
  rw [e35, e36]
  clear e35 e36 L33 M34
  rcases k30 with _ | k30
  ·rw [waybillref17_clone.l1] at hl31; cases hl31
  rw [waybillref17_clone.l1] at hl31
  have gq1 : ∀ w, More w0 Φ B19 w → More w0 Φ [] w := fun w q => More.mono (fun w m => hB20 w (m)) q
  replace va0 := va0.mono gq1
  replace ha0 := ha0.mono (LogRd.mono gq1)
  have m37 := o27.mx
  refine CW.seq (CW.seq (CW.region (OW.rv (RV.move rfl) rfl (OW.rv (RV.move rfl) rfl (OW.rv (RV.len rfl rfl) rfl (OW.rv (RV.lss rfl rfl) rfl (OW.slot (.bool (decide (n28 < a0.length))) (congrArg Value.bool (decide_eq_decide.2 (by omega))) (OW.nil (QW.then_n ?_)))))))))
  by_cases h38 : n28 < a0.length
  ·replace hl31 := if_t hl31 h38
   refine CW.is_t rfl (decide_eq_true h38) (CW.skip (QW.then_n (CW.seq (CW.block (CW.seq (CW.region (OW.rv (RV.move rfl) rfl (OW.rv (RV.move rfl) rfl ?_))))))))
   obtain ⟨x39, hx40, hl31⟩ := some_bind hl31
   have hl41 := lt_of_at hx40
   refine OW.rv (RV.idx_rs (n28) rfl rfl rfl rfl rfl (va0.isSome (by decide) hl41) (by omega)) rfl ?_
   obtain ⟨cs42, h43, h44⟩ := ha0.get LogRd.len hx40
   have h54 := h43
   obtain ⟨A45, c46, cs48, A50, c51, e53, v47, h49, v52⟩ := LogRd.opn h43
   subst e53
   have m55 := v47.mx
   have m56 := v52.mx
   refine OW.rv (RV.field_at rfl rfl rfl rfl) rfl (OW.rv (RV.loadAs rfl rfl rfl rfl (fun w m => va0.load_part (More.of hΦ 1 m rfl) h44 (LogC.C_address_all (⟨x39.address, .slice A45 x39.topics.length c46, .slice A50 x39.data.length c51⟩ : LogC))) ((u8s_length _).trans Vector.length_toList)) rfl ?_)
   refine OW.rv (RV.buildSt (l := (⟨(Vector.replicate 20 0#8), .slice none 0 0, .slice none 0 0⟩ : LogC).C) (cs := (⟨x39.address, .slice none 0 0, .slice none 0 0⟩ : LogC).C) [(0, (u8s x39.address.toList))] rfl rfl rfl (by kernel_rfl) rfl rfl (by refine (fillL_cons rfl ((u8s_length _).trans Vector.length_toList) (by rw [LogC.C_length]; exact Nat.le_of_ble_eq_true rfl)).trans ?_; rw [LogC.C_address_spl]; rfl)) rfl ?_
   refine OW.alloc (l := (⟨(Vector.replicate 20 0#8), .slice none 0 0, .slice none 0 0⟩ : LogC).C) rfl (by kernel_rfl) rfl (fun b57 => (OW.sv (SV.storeW rfl rfl rfl (LogC.C_one _ rfl rfl) rfl (LogC.C_length _) (LogC.C_length _)) (OW.nil (QW.then_n (CW.seq (CW.drawsU 7 mixed (by kernel_rfl) rfl (UW.rv 0 rfl (by kernel_rfl) rfl (RV.field rfl rfl rfl rfl) rfl (UW.slot (ptr (some b57) 20) rfl (UW.rv 1 rfl (by kernel_rfl) rfl (RV.load rfl (List.Mem.head _) rfl rfl rfl (LogC.C_topics (⟨x39.address, .slice none 0 0, .slice none 0 0⟩ : LogC))) rfl (UW.rv 2 rfl (by kernel_rfl) rfl (RV.move rfl) rfl ?_))))))))))
   refine UW.rv 3 rfl (by kernel_rfl) rfl (RV.move rfl) rfl ?_
   obtain ⟨x58, hx59, hl31⟩ := some_bind hl31
   have hl60 := lt_of_at hx59
   refine UW.rv 4 rfl (by kernel_rfl) rfl (RV.idx_rs (n28) rfl rfl rfl rfl rfl (va0.isSome (by decide) hl60) (by omega)) rfl ?_
   obtain ⟨cs61, h62, h63⟩ := ha0.get LogRd.len hx59
   have h73 := h62
   obtain ⟨A64, c65, cs67, A69, c70, e72, v66, h68, v71⟩ := LogRd.opn h62
   subst e72
   have m74 := v66.mx
   have m75 := v71.mx
   refine UW.rv 5 rfl (by kernel_rfl) rfl (RV.field_at rfl rfl rfl rfl) rfl (UW.rv 6 rfl (by kernel_rfl) rfl (RV.load_at rfl rfl rfl (fun w m => va0.load_fld (More.of hΦ 2 m rfl) h63 (LogC.C_topics (⟨x58.address, .slice A64 x58.topics.length c65, .slice A69 x58.data.length c70⟩ : LogC)))) rfl (UW.nil (by kernel_rfl) (OW.mem (M' := ((none, blk ([] ++ []) 24) :: (some b57, blk (⟨x39.address, .slice none 0 0, .slice none 0 0⟩ : LogC).C 63) :: (ob24, blk (cs22 ++ r26) 63) :: (B19 ++ N))) (fun w m => m.nil_ent _) ?_)))
   obtain ⟨g76, hl31⟩ := some_if hl31
   have h81 := h68
   refine OW.appendOwn (s := 32) rfl rfl rfl rfl rfl rfl OwnS.nil (fun w m => v66.rd w (More.of hΦ 3 m rfl)) v66.n (h68.cell1 Ar8Rd.one) (v66.zero (by decide)) (by decide) (by decide) (by first | omega | (simp only [i24, List.length_nil]; omega)) rfl rfl (x58.topics.length) cs67 (Nat.zero_add _) rfl (fun ob77 r78 c79 o80 => ?_)
   have m82 := o80.mx
   refine OW.rv (RV.field rfl rfl rfl rfl) rfl (OW.slot (ptr (some b57) 20) rfl (OW.rot1 (OW.sv (SV.store rfl rfl rfl rfl rfl (by rw [LogC.C_length]; omega)) (OW.cells (⟨x39.address, sl ob77 0 x58.topics.length c79, .slice none 0 0⟩ : LogC).C (LogC.C_topics_set _ (sl ob77 0 x58.topics.length c79)) (OW.nil (QW.then_n (CW.seq (CW.drawsU 7 mixed (by kernel_rfl) rfl (UW.rv 0 rfl (by kernel_rfl) rfl (RV.field rfl rfl rfl rfl) rfl ?_)))))))))
   refine UW.slot (ptr (some b57) 21) rfl (UW.rv 1 rfl (by kernel_rfl) rfl (RV.load rfl (List.Mem.head _) rfl rfl rfl (LogC.C_data (⟨x39.address, sl ob77 0 x58.topics.length c79, .slice none 0 0⟩ : LogC))) rfl (UW.rv 2 rfl (by kernel_rfl) rfl (RV.move rfl) rfl (UW.rv 3 rfl (by kernel_rfl) rfl (RV.move rfl) rfl ?_)))
   obtain ⟨x83, hx84, hl31⟩ := some_bind hl31
   have hl85 := lt_of_at hx84
   refine UW.rv 4 rfl (by kernel_rfl) rfl (RV.idx_rs (n28) rfl rfl rfl rfl rfl (va0.isSome (by decide) hl85) (by omega)) rfl ?_
   obtain ⟨cs86, h87, h88⟩ := ha0.get LogRd.len hx84
   have h98 := h87
   obtain ⟨A89, c90, cs92, A94, c95, e97, v91, h93, v96⟩ := LogRd.opn h87
   subst e97
   have m99 := v91.mx
   have m100 := v96.mx
   refine UW.rv 5 rfl (by kernel_rfl) rfl (RV.field_at rfl rfl rfl rfl) rfl (UW.rv 6 rfl (by kernel_rfl) rfl (RV.load_at rfl rfl rfl (fun w m => va0.load_fld (More.of hΦ 3 m rfl) h88 (LogC.C_data (⟨x83.address, .slice A89 x83.topics.length c90, .slice A94 x83.data.length c95⟩ : LogC)))) rfl (UW.nil (by kernel_rfl) (OW.mem (M' := ((none, blk ((u8s ([] : List (BitVec 8))) ++ []) 5) :: (some b57, blk (⟨x39.address, sl ob77 0 x58.topics.length c79, .slice none 0 0⟩ : LogC).C 63) :: (ob77, blk (cs67 ++ r78) 24) :: (ob24, blk (cs22 ++ r26) 63) :: (B19 ++ N))) (fun w m => m.nil_ent _) (OW.appendOwn (s := 1) rfl rfl rfl rfl rfl rfl OwnS.nil (fun w m => v96.rd w (More.of hΦ 4 m rfl)) v96.n (u8s_one _) (v96.zero (by decide)) (by decide) (by decide) (by first | omega | (simp only [i5, List.length_nil]; omega)) rfl rfl (x83.data.length) (u8s x83.data) (Nat.zero_add _) rfl (fun ob101 r102 c103 o104 => ?_)))))
   have m105 := o104.mx
   refine OW.rv (RV.field rfl rfl rfl rfl) rfl (OW.slot (ptr (some b57) 21) rfl (OW.rot1 (OW.sv (SV.store rfl rfl rfl rfl rfl (by rw [LogC.C_length]; omega)) (OW.cells (⟨x39.address, sl ob77 0 x58.topics.length c79, sl ob101 0 x83.data.length c103⟩ : LogC).C (LogC.C_data_set _ (sl ob101 0 x83.data.length c103)) (OW.nil (QW.then_n (CW.region (OW.rv (RV.move rfl) rfl (OW.rv (RV.loadW rfl (List.Mem.head _) rfl rfl rfl rfl (LogC.C_length _)) rfl ?_)))))))))
   refine OW.mem (M' := (some b57, blk (⟨x39.address, sl ob77 0 x58.topics.length c79, sl ob101 0 x83.data.length c103⟩ : LogC).C 63) :: (ob101, blk ((u8s x83.data) ++ r102) 5) :: (ob24, blk (cs22 ++ r26) 63) :: (((ob77, blk (cs67 ++ r78) 24) :: B19) ++ N)) (fun w m => m.pick [0, 1, 3, 2] 4 rfl rfl) ?_
   have gq2 : ∀ w, More w0 Φ ((ob77, blk (cs67 ++ r78) 24) :: B19) w → More w0 Φ B19 w := fun w q => More.mono (fun w m => (m).tail) q
   replace va0 := va0.mono gq2
   replace ha0 := ha0.mono (LogRd.mono gq2)
   replace h23 := h23.mono (LogRd.mono gq2)
   replace h54 := LogRd.mono gq2 _ _ h54
   replace v47 := v47.mono gq2
   replace h49 := h49.mono (Ar8Rd.mono gq2)
   replace v52 := v52.mono gq2
   replace h73 := LogRd.mono gq2 _ _ h73
   replace v66 := v66.mono gq2
   replace h68 := h68.mono (Ar8Rd.mono gq2)
   replace v71 := v71.mono gq2
   replace h81 := h81.mono (Ar8Rd.mono gq2)
   replace h98 := LogRd.mono gq2 _ _ h98
   replace v91 := v91.mono gq2
   replace h93 := h93.mono (Ar8Rd.mono gq2)
   replace v96 := v96.mono gq2
   have v108 : View (More w0 Φ ((ob77, blk (cs67 ++ r78) 24) :: B19)) ((ob77).map fun k => ⟨k, 0, none⟩) x58.topics.length c79 32 cs67 := o80.view (by decide) (fun w q => q.2.sublist (List.singleton_sublist.2 (List.mem_cons_self ..)))
   refine OW.mem (M' := (some b57, blk (⟨x39.address, .slice ((ob77).map fun k => ⟨k, 0, none⟩) x58.topics.length c79, sl ob101 0 x83.data.length c103⟩ : LogC).C 63) :: (ob24, blk (cs22 ++ r26) 63) :: (((ob101, blk ((u8s x83.data) ++ r102) 5) :: ((ob77, blk (cs67 ++ r78) 24) :: B19)) ++ N)) (fun w m => m.pick [0, 2, 1] 3 rfl rfl) ?_
   have gq3 : ∀ w, More w0 Φ ((ob101, blk ((u8s x83.data) ++ r102) 5) :: ((ob77, blk (cs67 ++ r78) 24) :: B19)) w → More w0 Φ ((ob77, blk (cs67 ++ r78) 24) :: B19) w := fun w q => More.mono (fun w m => (m).tail) q
   replace va0 := va0.mono gq3
   replace ha0 := ha0.mono (LogRd.mono gq3)
   replace h23 := h23.mono (LogRd.mono gq3)
   replace h54 := LogRd.mono gq3 _ _ h54
   replace v47 := v47.mono gq3
   replace h49 := h49.mono (Ar8Rd.mono gq3)
   replace v52 := v52.mono gq3
   replace h73 := LogRd.mono gq3 _ _ h73
   replace v66 := v66.mono gq3
   replace h68 := h68.mono (Ar8Rd.mono gq3)
   replace v71 := v71.mono gq3
   replace v108 := v108.mono gq3
   replace h81 := h81.mono (Ar8Rd.mono gq3)
   replace h98 := LogRd.mono gq3 _ _ h98
   replace v91 := v91.mono gq3
   replace h93 := h93.mono (Ar8Rd.mono gq3)
   replace v96 := v96.mono gq3
   have v109 : View (More w0 Φ ((ob101, blk ((u8s x83.data) ++ r102) 5) :: ((ob77, blk (cs67 ++ r78) 24) :: B19))) ((ob101).map fun k => ⟨k, 0, none⟩) x83.data.length c103 1 (u8s x83.data) := o104.view (by decide) (fun w q => q.2.sublist (List.singleton_sublist.2 (List.mem_cons_self ..)))
   refine OW.ofN (NV.bsA rfl rfl (by intro x hx; simp at hx; subst hx; exact (LogC.C_length _)) rfl rfl rfl (by decide) (by decide) rfl) rfl (fun b106 => ?_)
   have h111 : Reps (LogRd (More w0 Φ ((ob101, blk ((u8s x83.data) ++ r102) 5) :: ((ob77, blk (cs67 ++ r78) 24) :: B19)))) (((⟨x39.address, .slice ((ob77).map fun k => ⟨k, 0, none⟩) x58.topics.length c79, .slice ((ob101).map fun k => ⟨k, 0, none⟩) x83.data.length c103⟩ : LogC).C : List Value)) [(Log.mk x39.address x58.topics x83.data)] := Reps.one (LogRd.mk v108 h81 v109)
   refine OW.mem (M' := (((some b106), blk ((((⟨x39.address, .slice ((ob77).map fun k => ⟨k, 0, none⟩) x58.topics.length c79, .slice ((ob101).map fun k => ⟨k, 0, none⟩) x83.data.length c103⟩ : LogC).C : List Value)) ++ []) 63) :: (some b57, blk (⟨x39.address, .slice ((ob77).map fun k => ⟨k, 0, none⟩) x58.topics.length c79, .slice ((ob101).map fun k => ⟨k, 0, none⟩) x83.data.length c103⟩ : LogC).C 63) :: (ob24, blk (cs22 ++ r26) 63) :: (((ob101, blk ((u8s x83.data) ++ r102) 5) :: ((ob77, blk (cs67 ++ r78) 24) :: B19)) ++ N))) (fun w m => m) ?_
   have o107 : OwnS (some b106) ([(Log.mk x39.address x58.topics x83.data)] : List (Log)).length 1 22 (((⟨x39.address, .slice ((ob77).map fun k => ⟨k, 0, none⟩) x58.topics.length c79, .slice ((ob101).map fun k => ⟨k, 0, none⟩) x83.data.length c103⟩ : LogC).C : List Value)) [] := ⟨by simp [LogC.C_length], by simp [LogC.C_length], (fun h => nomatch h), by simp⟩
   have mx_o107 := o107.mx
   refine OW.slot (sl (some b106) 0 ([(Log.mk x39.address x58.topics x83.data)] : List (Log)).length 1) (rfl) (OW.rot2 ?_)
   obtain ⟨g112, hl31⟩ := some_if hl31
   have h117 := h23.app h111
   refine OW.appendOwn (s := 22) rfl rfl rfl rfl rfl rfl o27 (fun w m => m.rd0 (List.Mem.tail _ (List.Mem.head _)) (fun e => o107.nilc (by decide) e)) o107.n (h111.cell1 LogRd.one) (o107.zeroO (by decide)) (by decide) (by decide) (by first | omega | (simp only [i63, List.length_nil]; omega)) rfl rfl ((l21 ++ ([(Log.mk x39.address x58.topics x83.data)] : List (Log))).length) (cs22 ++ (((⟨x39.address, .slice ((ob77).map fun k => ⟨k, 0, none⟩) x58.topics.length c79, .slice ((ob101).map fun k => ⟨k, 0, none⟩) x83.data.length c103⟩ : LogC).C : List Value))) (List.length_append ..).symm rfl (fun ob113 r114 c115 o116 => ?_)
   have m118 := o116.mx
   refine OW.rv (RV.assign rfl) rfl (OW.nil (QW.block_n (QW.then_n (CW.region (OW.rv (RV.move rfl) rfl (OW.rv (RV.add rfl rfl (by omega)) rfl (OW.slot (.int .i64 (((n28 + 1) : Nat) : Int)) (by first | rfl | (congr 1) | (congr 1; omega)) (OW.rv (RV.assign rfl) rfl (OW.nil ?_)))))))))
   exact QW.againJ (k' := k30) (Nat.lt_succ_self _) ⟨(l21 ++ ([(Log.mk x39.address x58.topics x83.data)] : List (Log))), (n28 + 1), ((ob101, blk ((u8s x83.data) ++ r102) 5) :: ((ob77, blk (cs67 ++ r78) 24) :: B19)), (cs22 ++ (((⟨x39.address, .slice ((ob77).map fun k => ⟨k, 0, none⟩) x58.topics.length c79, .slice ((ob101).map fun k => ⟨k, 0, none⟩) x83.data.length c103⟩ : LogC).C : List Value))), ob113, c115, r114, hl31, (fun w m => hB20 w (((m).tail).tail)), h117, o116, (by omega), rfl, rfl⟩ ⟨rfl, rfl, rfl, trivial⟩ (fun w m => m.pick [0] 3 rfl rfl)
  ·replace hl31 := if_f hl31 h38
   refine CW.is_f rfl (decide_eq_false h38) (CW.exit (QW.then_x (QW.then_x (QW.block_xe ?_))))
   exact QW.join ⟨l21, B19, cs22, ob24, c25, r26, (Option.some.inj hl31).symm, (fun w m => hB20 w (m)), h23, o27, rfl, rfl⟩ ⟨rfl, trivial⟩ (fun w m => m.pick [0] 1 rfl rfl)
theorem waybillref17_Make_does (w0 : World) (Φ : Ctx) (N : List Ent) (hΦ : ∀ w, Mem w0 w N → Φ w) (a0 : Int) (a1 : BitVec 64) (a2 : BitVec 64) (A3_ : Option Addr) (c3_ : Nat) (cs3_ : List Value) (a3 : List (Log)) (res0 : Rcpt) (res1 : Nat) (ba0 : -9223372036854775808 ≤ a0 ∧ a0 ≤ 9223372036854775807) (va3 : View Φ A3_ a3.length c3_ 22 cs3_) (ha3 : Reps (LogRd Φ) cs3_ a3) (hTn : ∀ i, i < 25 → w0.cell? ⟨4, i, none⟩ = some (.int .i64 (turnsL.getD i 0))) (hRn : ∀ i, i < 24 → w0.cell? ⟨3, i, none⟩ = some (U64 (g64 roundsL i))) (hf : waybillref17_Make a0 a1 a2 a3 = some (res0, res1)) : DoesG Tryd.prog 27 [.int .i64 a0, U64 a1, U64 a2, .slice A3_ a3.length c3_] w0 [] N (fun v G => ∃ B : List Ent, ∃ cr0 : List Value, (RcptRd (More w0 Φ B) cr0 res0) ∧ (res1 ≤ 9223372036854775807) ∧ v = .tuple #[.agg cr0.toArray, .int .i64 ((res1 : Nat) : Int)] ∧ G = B) := by
 unfold waybillref17_Make at hf
 replace va3 := va3.mono (Ψ := More w0 Φ []) (fun w q => q.1)
 replace ha3 := ha3.mono (LogRd.mono (Ψ := More w0 Φ []) (fun w q => q.1))
 have m1 := va3.mx
 refine DoesG.enter Tryd.func27 rfl Tryd.ntmps27 rfl (M := (([] ++ N))) rfl (CW.seq (CW.region (OW.alloc (l := (⟨(0 : Int), false, (Vector.replicate 32 0#8), 0#64, 0#64, (Vector.replicate 256 0#8), .slice none 0 0⟩ : RcptC).C) rfl (by kernel_rfl) rfl (fun b2 => (OW.rv (RV.assign rfl) rfl (OW.nil (QW.then_n (CW.seq (CW.region (OW.rv (RV.move rfl) rfl (OW.rv (RV.move rfl) rfl (OW.rv (RV.move rfl) rfl ?_))))))))))))
 refine OW.rv (RV.move rfl) rfl ?_
 obtain ⟨x4, hx3, hf⟩ := some_bind hf
 refine OW.callG Tryd.call29 rfl (waybillref17_BloomOf_does w0 (More w0 Φ []) ((some b2, blk (⟨(0 : Int), false, (Vector.replicate 32 0#8), 0#64, 0#64, (Vector.replicate 256 0#8), .slice none 0 0⟩ : RcptC).C 30) :: ([] ++ N)) (fun w m => More.of hΦ 1 m rfl) A3_ c3_ cs3_ a3 x4 va3 ha3 hTn hRn hx3) rfl rfl ?_
 rintro _ G5 rfl
 refine OW.mem (M' := ((some b2, blk (⟨(0 : Int), false, (Vector.replicate 32 0#8), 0#64, 0#64, (Vector.replicate 256 0#8), .slice none 0 0⟩ : RcptC).C 30) :: ([] ++ N))) (fun w m => m.appR) (OW.rv (RV.move rfl) rfl ?_)
 obtain ⟨x8, hx7, hf⟩ := some_bind hf
 refine OW.callG Tryd.call50 rfl (waybillref17_clone_does w0 (More w0 Φ []) ((some b2, blk (⟨(0 : Int), false, (Vector.replicate 32 0#8), 0#64, 0#64, (Vector.replicate 256 0#8), .slice none 0 0⟩ : RcptC).C 30) :: ([] ++ N)) (fun w m => More.of hΦ 1 m rfl) A3_ c3_ cs3_ a3 x8 va3 ha3 hx7) rfl rfl ?_
 rintro L16 M17 ⟨B9, cs10, ob12, c13, r14, h11, o15, e18, e19⟩
 rw [e18, e19]
 clear e18 e19 L16 M17
 refine OW.mem (M' := ((ob12, blk (cs10 ++ r14) 63) :: (some b2, blk (⟨(0 : Int), false, (Vector.replicate 32 0#8), 0#64, 0#64, (Vector.replicate 256 0#8), .slice none 0 0⟩ : RcptC).C 30) :: ((B9 ++ []) ++ N))) (fun w m => by have h := Mem.sinkAt (A := B9) m 1 1 rfl rfl; exact h) ?_
 have gq1 : ∀ w, More w0 Φ (B9 ++ []) w → More w0 Φ [] w := fun w q => More.mono (fun w m => (m).appR) q
 replace va3 := va3.mono gq1
 replace ha3 := ha3.mono (LogRd.mono gq1)
 replace h11 := h11.mono (LogRd.mono (Ψ := (More w0 Φ (B9 ++ []))) (fun w q => More.flat q))
 have m20 := o15.mx
 refine OW.rv (RV.buildSt (l := (⟨(0 : Int), false, (Vector.replicate 32 0#8), 0#64, 0#64, (Vector.replicate 256 0#8), .slice none 0 0⟩ : RcptC).C) (cs := (⟨a0, false, (Vector.replicate 32 0#8), a1, a2, x4, sl ob12 0 x8.length c13⟩ : RcptC).C) [(0, [.int .i64 a0]), (3, [U64 a1]), (4, [U64 a2]), (5, (u8s x4.toList)), (6, [sl ob12 0 x8.length c13])] rfl rfl rfl (by kernel_rfl) rfl rfl (by refine (fillL_cons rfl rfl (by rw [RcptC.C_length]; exact Nat.le_of_ble_eq_true rfl)).trans ?_; rw [spl_one (by rw [RcptC.C_length]; exact Nat.le_of_ble_eq_true rfl), RcptC.C_kind_set]; refine (fillL_cons rfl rfl (by rw [RcptC.C_length]; exact Nat.le_of_ble_eq_true rfl)).trans ?_; rw [spl_one (by rw [RcptC.C_length]; exact Nat.le_of_ble_eq_true rfl), RcptC.C_status_set]; refine (fillL_cons rfl rfl (by rw [RcptC.C_length]; exact Nat.le_of_ble_eq_true rfl)).trans ?_; rw [spl_one (by rw [RcptC.C_length]; exact Nat.le_of_ble_eq_true rfl), RcptC.C_used_set]; refine (fillL_cons rfl ((u8s_length _).trans Vector.length_toList) (by rw [RcptC.C_length]; exact Nat.le_of_ble_eq_true rfl)).trans ?_; rw [RcptC.C_bloom_spl]; refine (fillL_cons rfl rfl (by rw [RcptC.C_length]; exact Nat.le_of_ble_eq_true rfl)).trans ?_; rw [spl_one (by rw [RcptC.C_length]; exact Nat.le_of_ble_eq_true rfl), RcptC.C_logs_set]; rfl)) rfl ?_
 refine OW.alloc (l := (⟨(0 : Int), false, (Vector.replicate 32 0#8), 0#64, 0#64, (Vector.replicate 256 0#8), .slice none 0 0⟩ : RcptC).C) rfl (by kernel_rfl) rfl (fun b21 => (OW.sv (SV.storeW rfl rfl rfl (RcptC.C_one _ rfl) rfl (RcptC.C_length _) (RcptC.C_length _)) (OW.nil (QW.then_n (CW.seq (CW.region (OW.rv (RV.loadW rfl (List.Mem.head _) rfl rfl rfl rfl (RcptC.C_length _)) rfl (OW.mem (M' := (some b21, blk (⟨a0, false, (Vector.replicate 32 0#8), a1, a2, x4, sl ob12 0 x8.length c13⟩ : RcptC).C 30) :: (some b2, blk (⟨(0 : Int), false, (Vector.replicate 32 0#8), 0#64, 0#64, (Vector.replicate 256 0#8), .slice none 0 0⟩ : RcptC).C 30) :: (((ob12, blk (cs10 ++ r14) 63) :: (B9 ++ [])) ++ N)) (fun w m => m.pick [0, 2, 1] 3 rfl rfl) ?_))))))))
 have gq2 : ∀ w, More w0 Φ ((ob12, blk (cs10 ++ r14) 63) :: (B9 ++ [])) w → More w0 Φ (B9 ++ []) w := fun w q => More.mono (fun w m => (m).tail) q
 replace va3 := va3.mono gq2
 replace ha3 := ha3.mono (LogRd.mono gq2)
 replace h11 := h11.mono (LogRd.mono gq2)
 have v22 : View (More w0 Φ ((ob12, blk (cs10 ++ r14) 63) :: (B9 ++ []))) ((ob12).map fun k => ⟨k, 0, none⟩) x8.length c13 22 cs10 := o15.view (by decide) (fun w q => q.2.sublist (List.singleton_sublist.2 (List.mem_cons_self ..)))
 have h23 : RcptRd (More w0 Φ ((ob12, blk (cs10 ++ r14) 63) :: (B9 ++ []))) (⟨a0, false, (Vector.replicate 32 0#8), a1, a2, x4, .slice ((ob12).map fun k => ⟨k, 0, none⟩) x8.length c13⟩ : RcptC).C (Rcpt.mk a0 false (Vector.replicate 32 0#8) a1 a2 x4 x8) := by refine RcptRd.mk ?_ v22 h11 <;> (first | omega | (dsimp only; omega)| (simp; done) | (show 0 ≤ 9223372036854775807; omega))
 obtain ⟨x25, hx24, hf⟩ := some_bind hf
 refine OW.callG Tryd.call37 rfl (waybillref17_Check_does w0 (More w0 Φ ((ob12, blk (cs10 ++ r14) 63) :: (B9 ++ []))) ((some b21, blk (⟨a0, false, (Vector.replicate 32 0#8), a1, a2, x4, .slice ((ob12).map fun k => ⟨k, 0, none⟩) x8.length c13⟩ : RcptC).C 30) :: (some b2, blk (⟨(0 : Int), false, (Vector.replicate 32 0#8), 0#64, 0#64, (Vector.replicate 256 0#8), .slice none 0 0⟩ : RcptC).C 30) :: (((ob12, blk (cs10 ++ r14) 63) :: (B9 ++ [])) ++ N)) (fun w m => More.of hΦ 2 m rfl) (⟨a0, false, (Vector.replicate 32 0#8), a1, a2, x4, .slice ((ob12).map fun k => ⟨k, 0, none⟩) x8.length c13⟩ : RcptC).C (Rcpt.mk a0 false (Vector.replicate 32 0#8) a1 a2 x4 x8) x25 h23 hTn hRn hx24) rfl rfl ?_
 rintro _ G27 ⟨b26, rfl⟩
 refine OW.mem (M' := ((some b21, blk (⟨a0, false, (Vector.replicate 32 0#8), a1, a2, x4, .slice ((ob12).map fun k => ⟨k, 0, none⟩) x8.length c13⟩ : RcptC).C 30) :: (some b2, blk (⟨(0 : Int), false, (Vector.replicate 32 0#8), 0#64, 0#64, (Vector.replicate 256 0#8), .slice none 0 0⟩ : RcptC).C 30) :: (((ob12, blk (cs10 ++ r14) 63) :: (B9 ++ [])) ++ N))) (fun w m => m.appR) (OW.rv (RV.assign rfl) rfl (OW.nil (QW.then_n (CW.seq (CW.seq (CW.region (OW.rv (RV.move rfl) rfl (OW.rv (RV.neq rfl rfl) rfl (OW.slot (.bool (!decide (x25 = 0))) (congrArg (fun b => Value.bool (!b)) (decide_eq_decide.2 (by omega))) (OW.nil (QW.then_n ?_)))))))))))
 by_cases h29 : x25 = 0
 ·replace hf := if_t hf h29
  refine CW.is_f rfl (congrArg (fun b => !b) (decide_eq_true h29)) (CW.skip (QW.then_n (CW.seq (CW.region (OW.rv (RV.loadW rfl (List.Mem.head _) rfl rfl rfl rfl (RcptC.C_length _)) rfl (OW.rot1 (OW.sv (SV.storeW rfl rfl rfl (RcptC.C_one _ rfl) rfl (RcptC.C_length _) (RcptC.C_length _)) (OW.rv (RV.assign rfl) rfl (OW.nil (QW.then_n (CW.ret ?_)))))))))))
  have er0 := Option.some.inj hf
  obtain ⟨e0, er1⟩ := Prod.mk.inj er0
  clear er0
  subst e0
  subst er1
  have h30 : RcptRd (More w0 Φ ((ob12, blk (cs10 ++ r14) 63) :: (B9 ++ []))) (⟨a0, false, (Vector.replicate 32 0#8), a1, a2, x4, .slice ((ob12).map fun k => ⟨k, 0, none⟩) x8.length c13⟩ : RcptC).C (Rcpt.mk a0 false (Vector.replicate 32 0#8) a1 a2 x4 x8) := by refine RcptRd.mk ?_ v22 h11 <;> (first | omega | (dsimp only; omega)| (simp; done) | (show 0 ≤ 9223372036854775807; omega))
  refine QW.retG (rs := [.cell 8 30, .tmp 9]) ([.agg (⟨a0, false, (Vector.replicate 32 0#8), a1, a2, x4, .slice ((ob12).map fun k => ⟨k, 0, none⟩) x8.length c13⟩ : RcptC).C.toArray, .int .i64 (0 : Int)]) (((ob12, blk (cs10 ++ r14) 63) :: (B9 ++ []))) rfl ?_ rfl ?_ ?_ _ (.inl rfl)
  ·exact ⟨⟨_, _, _, _, rfl, (List.Mem.head _), rfl, rfl, (congrArg some (RcptC.C_length _).symm), rfl⟩, rfl, trivial⟩
  ·exact ⟨((ob12, blk (cs10 ++ r14) 63) :: (B9 ++ [])), (⟨a0, false, (Vector.replicate 32 0#8), a1, a2, x4, .slice ((ob12).map fun k => ⟨k, 0, none⟩) x8.length c13⟩ : RcptC).C, h30, (by omega), rfl, rfl⟩
  ·exact (fun w m => m.pick [] 2 rfl rfl)
 ·replace hf := if_f hf h29
  refine CW.is_t rfl (congrArg (fun b => !b) (decide_eq_false h29)) (CW.seq (CW.region (OW.rv (RV.buildSt (l := (⟨(0 : Int), false, (Vector.replicate 32 0#8), 0#64, 0#64, (Vector.replicate 256 0#8), .slice none 0 0⟩ : RcptC).C) (cs := (⟨(0 : Int), false, (Vector.replicate 32 0#8), 0#64, 0#64, (Vector.replicate 256 0#8), .slice none 0 0⟩ : RcptC).C) [] rfl rfl rfl (by kernel_rfl) rfl rfl rfl) rfl (OW.rv (RV.move rfl) rfl (OW.rot1 (OW.sv (SV.storeW rfl rfl rfl (RcptC.C_one _ rfl) rfl (RcptC.C_length _) (RcptC.C_length _)) (OW.rv (RV.assign rfl) rfl (OW.nil (QW.then_n (CW.ret (QW.then_r ?_)))))))))))
  have er0 := Option.some.inj hf
  obtain ⟨e0, er1⟩ := Prod.mk.inj er0
  clear er0
  subst e0
  subst er1
  have v31 : View (More w0 Φ ((ob12, blk (cs10 ++ r14) 63) :: (B9 ++ []))) none ([] : List (Log)).length 0 22 [] := View.nil
  have h32 : RcptRd (More w0 Φ ((ob12, blk (cs10 ++ r14) 63) :: (B9 ++ []))) (⟨(0 : Int), false, (Vector.replicate 32 0#8), 0#64, 0#64, (Vector.replicate 256 0#8), .slice none 0 0⟩ : RcptC).C (Rcpt.mk (0 : Int) false (Vector.replicate 32 0#8) (0#64) (0#64) (Vector.replicate 256 0#8) ([] : List (Log))) := by refine RcptRd.mk ?_ v31 (Reps.nil) <;> (first | omega | (dsimp only; omega)| (simp; done) | (show 0 ≤ 9223372036854775807; omega))
  refine QW.retG (rs := [.cell 8 30, .tmp 9]) ([.agg (⟨(0 : Int), false, (Vector.replicate 32 0#8), 0#64, 0#64, (Vector.replicate 256 0#8), .slice none 0 0⟩ : RcptC).C.toArray, .int .i64 ((x25 : Nat) : Int)]) (((ob12, blk (cs10 ++ r14) 63) :: (B9 ++ []))) rfl ?_ rfl ?_ ?_ _ (.inl rfl)
  ·exact ⟨⟨_, _, _, _, rfl, (List.Mem.head _), rfl, rfl, (congrArg some (RcptC.C_length _).symm), rfl⟩, rfl, trivial⟩
  ·exact ⟨((ob12, blk (cs10 ++ r14) 63) :: (B9 ++ [])), (⟨(0 : Int), false, (Vector.replicate 32 0#8), 0#64, 0#64, (Vector.replicate 256 0#8), .slice none 0 0⟩ : RcptC).C, h32, (by omega), rfl, rfl⟩
  ·exact (fun w m => m.pick [] 2 rfl rfl)
theorem waybilllaw17_still_does (w0 : World) (Φ : Ctx) (N : List Ent) (hΦ : ∀ w, Mem w0 w N → Φ w) (A0_ : Option Addr) (c0_ : Nat) (a0 : List (BitVec 8)) (A1_ : Option Addr) (c1_ : Nat) (a1 : List (BitVec 8)) (res0 : Bool) (va0 : View Φ A0_ (a0 ++ List.replicate 70 195#8).length c0_ 1 (u8s (a0 ++ List.replicate 70 195#8))) (va1 : View Φ A1_ a1.length c1_ 1 (u8s a1)) (hf : waybilllaw17_still a0 a1 = some res0) : DoesG Tryd.prog 41 [.slice A0_ a0.length c0_, .slice A1_ a1.length c1_] w0 [] N (fun v G => v = .bool res0) := by
 unfold waybilllaw17_still at hf
 replace va0 := va0.mono (Ψ := More w0 Φ []) (fun w q => q.1)
 replace va1 := va1.mono (Ψ := More w0 Φ []) (fun w q => q.1)
 have hle := va0.mx
 have hle2 : (a0 ++ List.replicate 70 195#8).length = a0.length + 70 := by rw [List.length_append, List.length_replicate]
 have v1 : View (More w0 Φ []) A0_ a0.length c0_ 1 (u8s a0) := MRoom.view va0
 have m2 := v1.mx
 have m3 := va1.mx
 refine DoesG.enter Tryd.func41 rfl Tryd.ntmps41 rfl (M := (([] ++ N))) rfl (CW.seq (CW.region (OW.rv (RV.assign rfl) rfl (OW.nil (QW.then_n (CW.seq (CW.seq (CW.region (OW.rv (RV.move rfl) rfl (OW.rv (RV.len rfl rfl) rfl (OW.rv (RV.move rfl) rfl (OW.rv (RV.len rfl rfl) rfl ?_))))))))))))
 refine OW.rv (RV.neq rfl rfl) rfl (OW.slot (.bool (!decide (a0.length = a1.length))) (congrArg (fun b => Value.bool (!b)) (decide_eq_decide.2 (by omega))) (OW.nil (QW.then_n ?_)))
 by_cases h4 : a0.length = a1.length
 ·replace hf := if_t hf h4
  refine CW.is_f rfl (congrArg (fun b => !b) (decide_eq_true h4)) (CW.skip (QW.then_n (CW.seq (CW.region (OW.rv (RV.move rfl) rfl (OW.rv (RV.move rfl) rfl (OW.rv (RV.len rfl rfl) rfl (OW.rv (RV.add rfl rfl (by omega)) rfl (OW.slot (.int .i64 (((a1.length + 70) : Nat) : Int)) (by first | rfl | (congr 1) | (congr 1; omega)) ?_)))))))))
  obtain ⟨g6, hf⟩ := some_if hf
  have hle := va0.le
  have hlen_ : (a0 ++ List.replicate 70 195#8).length = (a0 ++ List.replicate 70 195#8).length := rfl
  refine OW.rv (RV.cut_hi ((a1.length + 70)) rfl rfl (by omega) rfl rfl (by omega)) rfl (OW.slot (.slice A0_ ((a0 ++ List.replicate 70 195#8).take (a1.length + 70)).length c0_) (by rw [show (((a0 ++ List.replicate 70 195#8).take (a1.length + 70))).length = (a1.length + 70) from List.length_take.trans (Nat.min_eq_left (by omega))]) ?_)
  have v5 : View (More w0 Φ []) A0_ ((a0 ++ List.replicate 70 195#8).take (a1.length + 70)).length c0_ 1 (u8s ((a0 ++ List.replicate 70 195#8).take (a1.length + 70))) := va0.hi8 (by omega)
  have m7 := v5.mx
  refine OW.rv (RV.assign rfl) rfl (OW.nil (QW.then_n (CW.seq (CW.seq (CW.region (OW.rv (RV.assign rfl) rfl (OW.nil (QW.then_n ?_))))))))
  obtain ⟨q8, hq9, hf⟩ := some_bind hf
  refine CW.cutJ (fun L' M' => q8 = Lp.go () ∧ L' = [] ∧ M' = (([] ++ N))) ?_ ?_
  ·rintro L11 M12 ⟨e10, e13, e14⟩
   rw [e13, e14]
   clear e13 e14 L11 M12
   clear hq9
   rw [e10] at hf
   clear e10
   try dsimp only at hf
   refine QW.then_n (CW.seq (CW.region (OW.rv (RV.assign rfl) rfl (OW.nil (QW.then_n (CW.ret ?_))))))
   have e0 := Option.some.inj hf
   subst e0
   refine QW.retG (rs := [.tmp 4]) ([.bool true]) ([]) rfl ?_ rfl ?_ ?_ _ (.inl rfl)
   ·exact ⟨rfl, trivial⟩
   ·exact rfl
   ·exact (fun w m => m)
  ·skip
   refine CW.block (CW.loopJ (fun k L' M' => ∃ n15 : Nat, (waybilllaw17_still.l1 a0 a1 k n15) = some q8 ∧ (n15 ≤ 9223372036854775807) ∧ L' = [(1, .slice A1_ a1.length c1_), (5, .slice A0_ ((a0 ++ List.replicate 70 195#8).take (a1.length + 70)).length c0_), (6, .int .i64 ((n15 : Nat) : Int))] ∧ M' = (([] ++ N))) (k0 := ((((a0 ++ List.replicate 70 195#8).take (a1.length + 70)).length) - 0 + 2)) ⟨0, hq9, (by omega), rfl, rfl⟩ ⟨rfl, rfl, rfl, trivial⟩ (fun w m => m.pick [] 0 rfl rfl) ?_)
   clear hq9
   rintro k17 L20 M21 ⟨n15, hl18, b16, e22, e23⟩
   rw [e22, e23]
   clear e22 e23 L20 M21
   rcases k17 with _ | k17
   ·rw [waybilllaw17_still.l1] at hl18; cases hl18
   rw [waybilllaw17_still.l1] at hl18
   refine CW.seq (CW.seq (CW.region (OW.rv (RV.move rfl) rfl (OW.rv (RV.move rfl) rfl (OW.rv (RV.len rfl rfl) rfl (OW.rv (RV.lss rfl rfl) rfl (OW.slot (.bool (decide (n15 < ((a0 ++ List.replicate 70 195#8).take (a1.length + 70)).length))) (congrArg Value.bool (decide_eq_decide.2 (by omega))) (OW.nil (QW.then_n ?_)))))))))
   by_cases h24 : n15 < ((a0 ++ List.replicate 70 195#8).take (a1.length + 70)).length
   ·replace hl18 := if_t hl18 h24
    refine CW.is_t rfl (decide_eq_true h24) (CW.skip (QW.then_n (CW.seq (CW.block (CW.seq ?_)))))
    obtain ⟨q25, hq26, hl18⟩ := some_bind hl18
    refine CW.cutJ (fun L' M' => ∃ p27 : Bool, q25 = p27 ∧ L' = [(1, .slice A1_ a1.length c1_), (5, .slice A0_ ((a0 ++ List.replicate 70 195#8).take (a1.length + 70)).length c0_), (6, .int .i64 ((n15 : Nat) : Int)), (50, .bool (p27))] ∧ M' = (([] ++ N))) ?_ ?_
    ·rintro L29 M30 ⟨p27, e28, e31, e32⟩
     rw [e31, e32]
     clear e31 e32 L29 M30
     clear hq26
     rw [e28] at hl18
     clear e28
     try dsimp only at hl18
     refine QW.then_n ?_
     by_cases h33 : p27 = true
     ·replace hl18 := if_t hl18 h33
      refine CW.is_t rfl (h33) (CW.seq (CW.region (OW.rv (RV.assign rfl) rfl (OW.nil (QW.then_n (CW.ret (QW.block_r (QW.then_r (QW.then_r (QW.block_r (QW.then_r ?_)))))))))))
      have hc := Option.some.inj hl18
      subst hc
      try dsimp only at hf
      refine QW.then_r ?_
      have e0 := Option.some.inj hf
      subst e0
      refine QW.retG (rs := [.tmp 4]) ([.bool false]) ([]) rfl ?_ rfl ?_ ?_ _ (.inl rfl)
      ·exact ⟨rfl, trivial⟩
      ·exact rfl
      ·exact (fun w m => m)
     ·replace hl18 := if_f hl18 h33
      refine CW.is_f rfl (Bool.eq_false_iff.2 h33) (CW.skip (QW.block_n (QW.then_n (CW.region (OW.rv (RV.move rfl) rfl (OW.rv (RV.add rfl rfl (by omega)) rfl (OW.slot (.int .i64 (((n15 + 1) : Nat) : Int)) (by first | rfl | (congr 1) | (congr 1; omega)) (OW.rv (RV.assign rfl) rfl (OW.nil ?_)))))))))
      exact QW.againJ (k' := k17) (Nat.lt_succ_self _) ⟨(n15 + 1), hl18, (by omega), rfl, rfl⟩ ⟨rfl, rfl, rfl, trivial⟩ (fun w m => m.pick [] 0 rfl rfl)
    ·skip
     refine CW.drawsU 28 mixed (by kernel_rfl) rfl (UW.rv 0 rfl (by kernel_rfl) rfl (RV.move rfl) rfl (UW.rv 1 rfl (by kernel_rfl) rfl (RV.move rfl) rfl (UW.rv 2 rfl (by kernel_rfl) rfl (RV.len rfl rfl) rfl (UW.rv 3 rfl (by kernel_rfl) rfl (RV.lss rfl rfl) rfl (UW.slot (.bool (decide (n15 < a1.length))) (congrArg Value.bool (decide_eq_decide.2 (by omega))) (UW.rv 4 rfl (by kernel_rfl) rfl (RV.move rfl) rfl ?_))))))
     by_cases h34 : n15 < a1.length
     ·replace hq26 := if_t hq26 h34
      refine UW.slot (.bool true) (congrArg Value.bool (decide_eq_true h34)) (UW.rv 5 rfl (by kernel_rfl) rfl (RV.move rfl) rfl (UW.rv 6 rfl (by kernel_rfl) rfl (RV.move rfl) rfl ?_))
      obtain ⟨x35, hx36, hq26⟩ := some_bind hq26
      have hl37 := lt_of_at hx36
      refine UW.rv 7 rfl (by kernel_rfl) rfl (RV.idx_r (n15) rfl rfl rfl rfl rfl (v5.isSome (by decide) hl37) (by omega)) rfl (UW.rv 8 rfl (by kernel_rfl) rfl (RV.load_at rfl rfl rfl (fun w m => v5.cell (More.of hΦ 0 m rfl) (u8s_at hx36))) rfl (UW.rv 9 rfl (by kernel_rfl) rfl (RV.move rfl) rfl (UW.rv 10 rfl (by kernel_rfl) rfl (RV.move rfl) rfl ?_)))
      obtain ⟨x38, hx39, hq26⟩ := some_bind hq26
      have hl40 := lt_of_at hx39
      refine UW.rv 11 rfl (by kernel_rfl) rfl (RV.idx_r (n15) rfl rfl rfl rfl rfl (va1.isSome (by decide) hl40) (by omega)) rfl (UW.rv 12 rfl (by kernel_rfl) rfl (RV.load_at rfl rfl rfl (fun w m => va1.cell (More.of hΦ 0 m rfl) (u8s_at hx39))) rfl (UW.rv 13 rfl (by kernel_rfl) rfl (RV.neq8 rfl (by first | rfl | exact lit8 _ rfl) rfl (by first | rfl | exact lit8 _ rfl)) rfl (UW.rv 14 rfl (by kernel_rfl) rfl (RV.pick_t rfl rfl rfl) rfl (UW.rv 15 rfl (by kernel_rfl) rfl (RV.move rfl) rfl ?_))))
      by_cases h41 : x35 = x38
      ·replace hq26 := if_t hq26 h41
       refine UW.slot (.bool false) (congrArg Value.bool (congrArg (fun b => !b) (decide_eq_true h41))) (UW.rv 16 rfl (by kernel_rfl) rfl (RV.move rfl) rfl (UW.rv 17 rfl (by kernel_rfl) rfl (RV.move rfl) rfl (UW.rv 18 rfl (by kernel_rfl) rfl (RV.len rfl rfl) rfl (UW.rv 19 rfl (by kernel_rfl) rfl (RV.geq rfl rfl) rfl (UW.slot (.bool (decide (a1.length ≤ n15))) (congrArg Value.bool (decide_eq_decide.2 (by omega))) (UW.rv 20 rfl (by kernel_rfl) rfl (RV.move rfl) rfl ?_))))))
       by_cases h42 : a1.length ≤ n15
       ·replace hq26 := if_t hq26 h42
        refine UW.slot (.bool true) (congrArg Value.bool (decide_eq_true h42)) (UW.rv 21 rfl (by kernel_rfl) rfl (RV.move rfl) rfl (UW.rv 22 rfl (by kernel_rfl) rfl (RV.move rfl) rfl ?_))
        obtain ⟨x43, hx44, hq26⟩ := some_bind hq26
        have hl45 := lt_of_at hx44
        refine UW.rv 23 rfl (by kernel_rfl) rfl (RV.idx_r (n15) rfl rfl rfl rfl rfl (v5.isSome (by decide) hl45) (by omega)) rfl (UW.rv 24 rfl (by kernel_rfl) rfl (RV.load_at rfl rfl rfl (fun w m => v5.cell (More.of hΦ 0 m rfl) (u8s_at hx44))) rfl (UW.rv 25 rfl (by kernel_rfl) rfl (RV.neq8 rfl (by first | rfl | exact lit8 _ rfl) rfl (by first | rfl | exact lit8 _ rfl)) rfl (UW.rv 26 rfl (by kernel_rfl) rfl (RV.pick_t rfl rfl rfl) rfl (UW.rv 27 rfl (by kernel_rfl) rfl (RV.pick_f rfl rfl rfl) rfl (UW.nil (by kernel_rfl) (OW.nil ?_))))))
        exact QW.join ⟨(!decide (x43 = 195#8)), (Option.some.inj hq26).symm, rfl, rfl⟩ ⟨rfl, rfl, rfl, rfl, trivial⟩ (fun w m => m.pick [] 0 rfl rfl)
       ·replace hq26 := if_f hq26 h42
        refine UW.slot (.bool false) (congrArg Value.bool (decide_eq_false h42)) (UW.skip 21 rfl (by kernel_rfl) rfl rfl (UW.skip 22 rfl (by kernel_rfl) rfl rfl (UW.skip 23 rfl (by kernel_rfl) rfl rfl (UW.skip 24 rfl (by kernel_rfl) rfl rfl (UW.skip 25 rfl (by kernel_rfl) rfl rfl (UW.rv 26 rfl (by kernel_rfl) rfl (RV.pick_f rfl rfl rfl) rfl (UW.rv 27 rfl (by kernel_rfl) rfl (RV.pick_f rfl rfl rfl) rfl ?_)))))))
        refine UW.nil (by kernel_rfl) (OW.nil ?_)
        exact QW.join ⟨false, (Option.some.inj hq26).symm, rfl, rfl⟩ ⟨rfl, rfl, rfl, rfl, trivial⟩ (fun w m => m.pick [] 0 rfl rfl)
      ·replace hq26 := if_f hq26 h41
       refine UW.slot (.bool true) (congrArg Value.bool (congrArg (fun b => !b) (decide_eq_false h41))) (UW.skip 16 rfl (by kernel_rfl) rfl rfl (UW.skip 17 rfl (by kernel_rfl) rfl rfl (UW.skip 18 rfl (by kernel_rfl) rfl rfl (UW.skip 19 rfl (by kernel_rfl) rfl rfl (UW.skip 20 rfl (by kernel_rfl) rfl rfl (UW.skip 21 rfl (by kernel_rfl) rfl rfl (UW.skip 22 rfl (by kernel_rfl) rfl rfl ?_)))))))
       refine UW.skip 23 rfl (by kernel_rfl) rfl rfl (UW.skip 24 rfl (by kernel_rfl) rfl rfl (UW.skip 25 rfl (by kernel_rfl) rfl rfl (UW.skip 26 rfl (by kernel_rfl) rfl rfl (UW.rv 27 rfl (by kernel_rfl) rfl (RV.pick_t rfl rfl rfl) rfl (UW.nil (by kernel_rfl) (OW.nil ?_))))))
       exact QW.join ⟨true, (Option.some.inj hq26).symm, rfl, rfl⟩ ⟨rfl, rfl, rfl, rfl, trivial⟩ (fun w m => m.pick [] 0 rfl rfl)
     ·replace hq26 := if_f hq26 h34
      refine UW.slot (.bool false) (congrArg Value.bool (decide_eq_false h34)) (UW.skip 5 rfl (by kernel_rfl) rfl rfl (UW.skip 6 rfl (by kernel_rfl) rfl rfl (UW.skip 7 rfl (by kernel_rfl) rfl rfl (UW.skip 8 rfl (by kernel_rfl) rfl rfl (UW.skip 9 rfl (by kernel_rfl) rfl rfl (UW.skip 10 rfl (by kernel_rfl) rfl rfl (UW.skip 11 rfl (by kernel_rfl) rfl rfl ?_)))))))
      refine UW.skip 12 rfl (by kernel_rfl) rfl rfl (UW.skip 13 rfl (by kernel_rfl) rfl rfl (UW.rv 14 rfl (by kernel_rfl) rfl (RV.pick_f rfl rfl rfl) rfl (UW.rv 15 rfl (by kernel_rfl) rfl (RV.move rfl) rfl (UW.rv 16 rfl (by kernel_rfl) rfl (RV.move rfl) rfl (UW.rv 17 rfl (by kernel_rfl) rfl (RV.move rfl) rfl (UW.rv 18 rfl (by kernel_rfl) rfl (RV.len rfl rfl) rfl (UW.rv 19 rfl (by kernel_rfl) rfl (RV.geq rfl rfl) rfl ?_)))))))
      refine UW.slot (.bool (decide (a1.length ≤ n15))) (congrArg Value.bool (decide_eq_decide.2 (by omega))) (UW.rv 20 rfl (by kernel_rfl) rfl (RV.move rfl) rfl ?_)
      by_cases h46 : a1.length ≤ n15
      ·replace hq26 := if_t hq26 h46
       refine UW.slot (.bool true) (congrArg Value.bool (decide_eq_true h46)) (UW.rv 21 rfl (by kernel_rfl) rfl (RV.move rfl) rfl (UW.rv 22 rfl (by kernel_rfl) rfl (RV.move rfl) rfl ?_))
       obtain ⟨x47, hx48, hq26⟩ := some_bind hq26
       have hl49 := lt_of_at hx48
       refine UW.rv 23 rfl (by kernel_rfl) rfl (RV.idx_r (n15) rfl rfl rfl rfl rfl (v5.isSome (by decide) hl49) (by omega)) rfl (UW.rv 24 rfl (by kernel_rfl) rfl (RV.load_at rfl rfl rfl (fun w m => v5.cell (More.of hΦ 0 m rfl) (u8s_at hx48))) rfl (UW.rv 25 rfl (by kernel_rfl) rfl (RV.neq8 rfl (by first | rfl | exact lit8 _ rfl) rfl (by first | rfl | exact lit8 _ rfl)) rfl (UW.rv 26 rfl (by kernel_rfl) rfl (RV.pick_t rfl rfl rfl) rfl (UW.rv 27 rfl (by kernel_rfl) rfl (RV.pick_f rfl rfl rfl) rfl (UW.nil (by kernel_rfl) (OW.nil ?_))))))
       exact QW.join ⟨(!decide (x47 = 195#8)), (Option.some.inj hq26).symm, rfl, rfl⟩ ⟨rfl, rfl, rfl, rfl, trivial⟩ (fun w m => m.pick [] 0 rfl rfl)
      ·replace hq26 := if_f hq26 h46
       refine UW.slot (.bool false) (congrArg Value.bool (decide_eq_false h46)) (UW.skip 21 rfl (by kernel_rfl) rfl rfl (UW.skip 22 rfl (by kernel_rfl) rfl rfl (UW.skip 23 rfl (by kernel_rfl) rfl rfl (UW.skip 24 rfl (by kernel_rfl) rfl rfl (UW.skip 25 rfl (by kernel_rfl) rfl rfl (UW.rv 26 rfl (by kernel_rfl) rfl (RV.pick_f rfl rfl rfl) rfl (UW.rv 27 rfl (by kernel_rfl) rfl (RV.pick_f rfl rfl rfl) rfl ?_)))))))
       refine UW.nil (by kernel_rfl) (OW.nil ?_)
       exact QW.join ⟨false, (Option.some.inj hq26).symm, rfl, rfl⟩ ⟨rfl, rfl, rfl, rfl, trivial⟩ (fun w m => m.pick [] 0 rfl rfl)
   ·replace hl18 := if_f hl18 h24
    refine CW.is_f rfl (decide_eq_false h24) (CW.exit (QW.then_x (QW.then_x (QW.block_xe ?_))))
    exact QW.join ⟨(Option.some.inj hl18).symm, rfl, rfl⟩ trivial (fun w m => m.pick [] 0 rfl rfl)
 ·replace hf := if_f hf h4
  refine CW.is_t rfl (congrArg (fun b => !b) (decide_eq_false h4)) (CW.seq (CW.region (OW.rv (RV.assign rfl) rfl (OW.nil (QW.then_n (CW.ret (QW.then_r ?_)))))))
  have e0 := Option.some.inj hf
  subst e0
  refine QW.retG (rs := [.tmp 4]) ([.bool false]) ([]) rfl ?_ rfl ?_ ?_ _ (.inl rfl)
  ·exact ⟨rfl, trivial⟩
  ·exact rfl
  ·exact (fun w m => m)
theorem receipt_Make_own (w0 : World) (Φ : Ctx) (N : List Ent) (hΦ : ∀ w, Mem w0 w N → Φ w) (kind : Int) (status used : BitVec 64) (A : Option Addr) (c : Nat) (cs : List Value) (logs : List Log) (x : Rcpt) (e : Int) (hkb : -9223372036854775808 ≤ kind ∧ kind ≤ 9223372036854775807) (va : View Φ A logs.length c 22 cs) (ha : Reps (LogRd Φ) cs logs) (hg2 : View Φ (some ⟨2, 0, none⟩) 2 2 1 (u8s firstL)) (hf : receipt_Make kind status used logs = some (x, e)) :
  DoesG Tryd.prog 26 [.int .i64 kind, U64 status, U64 used, .slice A logs.length c] w0 [] N (DecO w0 x e) := by
 have hm := va.mx
 unfold receipt_Make at hf
 obtain ⟨bl, hbl, hf⟩ := Option.bind_eq_some_iff.1 hf
 obtain ⟨hfit, hf⟩ := some_if hf
 obtain ⟨ce, hce, hf⟩ := Option.bind_eq_some_iff.1 hf
 simp only [mkfit, Bool.and_eq_true, List.all_eq_true, decide_eq_true_eq] at hfit
 obtain ⟨hfit1, hfit2⟩ := hfit
 refine DoesG.enter Tryd.func26 rfl Tryd.ntmps26 rfl (M := N) rfl (CW.seq (CW.region (OW.alloc (l := RcptZ.C) rfl (by kernel_rfl) rfl (fun b8 => (OW.rv (RV.assign rfl) rfl (OW.nil ?_))))))
 (refine QW.then_n ?_; refine CW.seq ?_)
 refine CW.region (OW.rv (RV.move rfl) rfl (OW.rv (RV.move rfl) rfl (OW.rv (RV.move rfl) rfl (OW.rv (RV.move rfl) rfl ?_))))
 refine OW.callG Tryd.call28 rfl (receipt_BloomOf_does w0 Φ ((some b8, blk RcptZ.C 30) :: N) (fun w m => hΦ w (m.drop 1)) A c cs logs bl va ha hg2 hbl) rfl rfl ?_; rintro _ G1 rfl; refine OW.mem (M' := (some b8, blk RcptZ.C 30) :: N) (fun w m => m.appR) ?_
 refine OW.rv (RV.buildSt (l := RcptZ.C) (cs := (⟨kind, false, Vector.replicate 32 0#8, status, used, bl, .slice none 0 0⟩ : RcptC).C) [(0, [.int .i64 kind]), (3, [U64 status]), (4, [U64 used]), (5, u8s bl.toList)] rfl rfl rfl (by kernel_rfl) rfl rfl (by refine (fillL_cons rfl rfl (by rw [RcptC.C_length]; exact Nat.le_of_ble_eq_true rfl)).trans ?_; rw [spl_one (by rw [RcptC.C_length]; exact Nat.le_of_ble_eq_true rfl), RcptC.C_kind_set]; refine (fillL_cons rfl rfl (by rw [RcptC.C_length]; exact Nat.le_of_ble_eq_true rfl)).trans ?_; rw [spl_one (by rw [RcptC.C_length]; exact Nat.le_of_ble_eq_true rfl), RcptC.C_status_set]; refine (fillL_cons rfl rfl (by rw [RcptC.C_length]; exact Nat.le_of_ble_eq_true rfl)).trans ?_; rw [spl_one (by rw [RcptC.C_length]; exact Nat.le_of_ble_eq_true rfl), RcptC.C_used_set]; refine (fillL_cons rfl ((u8s_length _).trans Vector.length_toList) (by rw [RcptC.C_length]; exact Nat.le_of_ble_eq_true rfl)).trans ?_; rw [RcptC.C_bloom_spl]; rfl)) rfl ?_
 refine OW.alloc (l := RcptZ.C) rfl (by kernel_rfl) rfl (fun b10 => (OW.sv (SV.storeW rfl rfl rfl (RcptC.C_one _ rfl) rfl (RcptC.C_length _) (RcptC.C_length _)) (OW.nil ?_)))
 (refine QW.then_n ?_; refine CW.seq ?_; refine CW.seq ?_)
 refine CW.region (OW.rv (RV.move rfl) rfl (OW.rv (RV.len rfl rfl) rfl (OW.rv (RV.move rfl) rfl (OW.nil ?_))))
 (refine QW.then_n ?_; refine CW.block ?_)
 refine CW.loopJ (fun k L' M' => ∃ (i : Nat) (gs : List Lg) (ob : Option Nat) (c1 : Nat) (r1 : List Value), k = logs.length - i ∧ i ≤ logs.length ∧ gs.map Lg.val = logs.take i ∧ (∀ g ∈ gs, g.Ok) ∧ OwnS ob gs.length c1 22 (lgC gs) r1 ∧ L' = [(8, ptr (some b8) 0), (10, ptr (some b10) 0), (20, .slice A logs.length c), (21, .int .i64 (logs.length : Int)), (22, .int .i64 (i : Int))] ∧
  M' = (some b10, blk (⟨kind, false, Vector.replicate 32 0#8, status, used, bl, sl ob 0 gs.length c1⟩ : RcptC).C 30) :: (ob, blk (lgC gs ++ r1) 63) :: (some b8, blk RcptZ.C 30) :: (lgs 24 5 gs ++ N)) (k0 := logs.length) ⟨0, [], none, 0, [], rfl, by omega, rfl, (fun g hg => by cases hg), OwnS.nil, rfl, rfl⟩ ⟨rfl, rfl, rfl, rfl, rfl, trivial⟩ (fun w m => (m.nil_ent (blk (lgC [] ++ []) 63)).rot1) ?_
 rintro k L' M' ⟨i, gs, ob, c1, r1, rfl, hi, hgv, hok, hoi, rfl, rfl⟩
 have hgl : gs.length = i := by have := congrArg List.length hgv; rw [List.length_map, List.length_take] at this; omega
 refine CW.seq (CW.region (OW.rv (RV.lss rfl rfl) rfl (OW.nil ?_)))
 (refine QW.then_n ?_; refine CW.seq ?_)
 refine CW.cond_p rfl (fun hlt2 => ?_) (fun hlt2 => ?_)
 ·have h1 : i < logs.length := by omega
  have hx : logs[i]? = some logs[i] := List.getElem?_eq_getElem h1
  obtain ⟨ci, hci, hcc⟩ := ha.get LogRd.len hx
  obtain ⟨At, ct, cst, Ad, cd, rfl, vt, ht, vd⟩ := LogRd.opn hci
  have hst := hs32_of ht
  subst hst
  have hfx := hfit1 _ (List.getElem_mem h1)
  have hmt := vt.mx
  have hmd := vd.mx
  (refine CW.skip ?_; refine QW.then_n ?_; refine CW.seq ?_; refine CW.block ?_; refine CW.seq ?_)
  refine CW.region (OW.rv (RV.idx_rs (i) rfl rfl rfl rfl rfl (va.isSome (by decide) h1) (by omega)) rfl (OW.rv (RV.loadAs rfl rfl rfl rfl (fun w m => va.load (hΦ w (m.drop 3).appR) hcc) (LogC.C_length _)) rfl (OW.alloc (l := LogZ.C) rfl (by kernel_rfl) rfl (fun b12 => (OW.sv (SV.storeW rfl rfl rfl (LogC.C_one _ rfl rfl) rfl (LogC.C_length _) (LogC.C_length _)) (OW.nil ?_))))))
  (refine QW.then_n ?_; refine CW.seq ?_)
  refine CW.region (OW.rv (RV.field rfl rfl rfl rfl) rfl (OW.rv (RV.load rfl (List.Mem.head _) rfl rfl rfl (LogC.C_topics _)) rfl ?_))
  refine OW.mem (M' := (none, blk (hs32 [] ++ []) 24) :: (some b12, blk (⟨logs[i].address, .slice At logs[i].topics.length ct, .slice Ad logs[i].data.length cd⟩ : LogC).C 63) :: (some b10, blk (⟨kind, false, Vector.replicate 32 0#8, status, used, bl, sl ob 0 gs.length c1⟩ : RcptC).C 30) :: (ob, blk (lgC gs ++ r1) 63) :: (some b8, blk RcptZ.C 30) :: (lgs 24 5 gs ++ N)) (fun w m => m.nil_ent _) ?_; refine OW.appendOwn (s := 32) rfl rfl rfl rfl rfl rfl OwnS.nil (fun w m => vt.rd w (hΦ w (m.drop 5).appR)) vt.n (hs32_one _) (vt.zero (by decide)) (by decide) (by decide) (by simp only [i24]; omega) rfl rfl (logs[i].topics.length) (hs32 logs[i].topics) (Nat.zero_add _) rfl (fun ot rt c5 o5 => ?_); refine OW.rot1 ?_
  refine OW.rv (RV.field rfl rfl rfl rfl) rfl ?_
  refine OW.sv (SV.store rfl rfl rfl rfl rfl (by rw [LogC.C_length]; exact Nat.le_of_ble_eq_true rfl)) ?_; refine OW.cells (⟨logs[i].address, sl ot 0 logs[i].topics.length c5, .slice Ad logs[i].data.length cd⟩ : LogC).C (LogC.C_topics_set _ _) ?_
  refine OW.nil ?_
  (refine QW.then_n ?_; refine CW.seq ?_)
  refine CW.region (OW.rv (RV.field rfl rfl rfl rfl) rfl (OW.rv (RV.load rfl (List.Mem.head _) rfl rfl rfl (LogC.C_data _)) rfl ?_))
  refine OW.mem (M' := (none, blk (u8s [] ++ []) 5) :: (some b12, blk (⟨logs[i].address, sl ot 0 logs[i].topics.length c5, .slice Ad logs[i].data.length cd⟩ : LogC).C 63) :: (ot, blk (hs32 logs[i].topics ++ rt) 24) :: (some b10, blk (⟨kind, false, Vector.replicate 32 0#8, status, used, bl, sl ob 0 gs.length c1⟩ : RcptC).C 30) :: (ob, blk (lgC gs ++ r1) 63) :: (some b8, blk RcptZ.C 30) :: (lgs 24 5 gs ++ N)) (fun w m => m.nil_ent _) ?_; refine OW.appendOwn (s := 1) rfl rfl rfl rfl rfl rfl OwnS.nil (fun w m => vd.rd w (hΦ w (m.drop 6).appR)) vd.n (u8s_one _) (vd.zero (by decide)) (by decide) (by decide) (by simp only [i5]; omega) rfl rfl (logs[i].data.length) (u8s logs[i].data) (Nat.zero_add _) rfl (fun od rd c6 o6 => ?_); refine OW.rot1 ?_
  refine OW.rv (RV.field rfl rfl rfl rfl) rfl ?_
  refine OW.sv (SV.store rfl rfl rfl rfl rfl (by rw [LogC.C_length]; exact Nat.le_of_ble_eq_true rfl)) ?_; refine OW.cells (⟨logs[i].address, ot, logs[i].topics, c5, rt, od, logs[i].data, c6, rd⟩ : Lg).cells (LogC.C_data_set _ _) ?_
  refine OW.nil (QW.then_n ?_)
  generalize hg : (⟨logs[i].address, ot, logs[i].topics, c5, rt, od, logs[i].data, c6, rd⟩ : Lg) = g
  have gok : g.Ok := by rw [← hg]; exact ⟨o5, o6⟩
  have gval : g.val = logs[i] := by rw [← hg]; rfl
  refine CW.mem (M' := (ob, blk (lgC gs ++ r1) 63) :: (some b12, blk g.cells 63) :: (some b10, blk (⟨kind, false, Vector.replicate 32 0#8, status, used, bl, sl ob 0 gs.length c1⟩ : RcptC).C 30) :: (some b8, blk RcptZ.C 30) :: (g.ents 24 5 ++ (lgs 24 5 gs ++ N))) (fun w m => by rw [← hg] at m ⊢; exact m.pick [4, 0, 3, 5, 2, 1] 6 rfl rfl) ?_
  refine CW.region (OW.rv (RV.field rfl rfl rfl rfl) rfl (OW.rv (RV.load rfl (List.Mem.tail _ (List.Mem.tail _ (List.Mem.head _))) rfl rfl rfl (RcptC.C_logs _)) rfl (OW.rv (RV.loadW rfl (List.Mem.tail _ (List.Mem.head _)) rfl rfl rfl rfl g.cells_length) rfl ?_)))
  refine OW.ofN (NV.bsA rfl rfl (by intro x hx; simp at hx; subst hx; exact g.cells_length) rfl rfl rfl (by decide) (by decide) rfl) rfl (fun bs => ?_)
  refine OW.rot1 ?_; refine OW.appendOwn (s := 22) rfl rfl rfl rfl rfl rfl hoi (fun w m => m.rd0 (List.Mem.tail _ (List.Mem.head _)) (fun e => nomatch e)) g.cells_length g.cells_one (fun e => nomatch e) (by decide) (by decide) (by simp only [i63]; omega) rfl rfl ((gs ++ [g]).length) (lgC (gs ++ [g])) (by simp) (by rw [lgC_app, lgC_one1]) (fun ob2 r2 c2 o2 => ?_); refine OW.mem (M' := (some b10, blk (⟨kind, false, Vector.replicate 32 0#8, status, used, bl, sl ob 0 gs.length c1⟩ : RcptC).C 30) :: (ob2, blk (lgC (gs ++ [g]) ++ r2) 63) :: (some b8, blk RcptZ.C 30) :: (g.ents 24 5 ++ (lgs 24 5 gs ++ N))) (fun w m => m.pick [3, 0, 4] 5 rfl rfl) ?_
  refine OW.rv (RV.field rfl rfl rfl rfl) rfl ?_
  refine OW.sv (SV.store rfl rfl rfl rfl rfl (by rw [RcptC.C_length]; exact Nat.le_of_ble_eq_true rfl)) ?_; refine OW.cells (⟨kind, false, Vector.replicate 32 0#8, status, used, bl, sl ob2 0 (gs ++ [g]).length c2⟩ : RcptC).C (RcptC.C_logs_set _ _) ?_
  refine OW.nil ?_
  (refine QW.block_n ?_; refine QW.then_n ?_)
  refine CW.region (OW.rv (RV.add rfl rfl (by omega)) rfl (OW.rv (RV.move rfl) rfl (OW.nil ?_)))
  refine QW.againJ (k' := logs.length - (i + 1)) (by omega) ⟨i + 1, gs ++ [g], ob2, c2, r2, rfl, by omega, by rw [List.map_append, hgv, List.take_add_one, hx, List.map_cons, gval]; rfl, ?_, o2, rfl, rfl⟩ ⟨rfl, rfl, rfl, rfl, rfl, trivial⟩ (fun w m => lgs_snoc (X := [_, _, _]) m)
  intro x hx
  rcases List.mem_append.1 hx with hx | hx
  ·exact hok x hx
  ·obtain rfl := List.mem_singleton.1 hx
   exact gok
 ·have hie : i = logs.length := by omega
  subst hie
  rw [List.take_length] at hgv
  have hmg := hoi.mx
  have hvl := hoi.view (te := 63) (w0 := w0) (Ψ := fun w => Mem w0 w ((some b10, blk (⟨kind, false, Vector.replicate 32 0#8, status, used, bl, sl ob 0 gs.length c1⟩ : RcptC).C 30) :: (ob, blk (lgC gs ++ r1) 63) :: (some b8, blk RcptZ.C 30) :: (lgs 24 5 gs ++ N))) (by decide) (fun w q => (q.drop 1).sublist (List.singleton_sublist.2 (List.mem_cons_self ..)))
  have hrl := lgs_reps (w0 := w0) (Φ := fun w => Mem w0 w ((some b10, blk (⟨kind, false, Vector.replicate 32 0#8, status, used, bl, sl ob 0 gs.length c1⟩ : RcptC).C 30) :: (ob, blk (lgC gs ++ r1) 63) :: (some b8, blk RcptZ.C 30) :: (lgs 24 5 gs ++ N))) (tH := 24) (tB := 5) hok (fun w q => (q.drop 3).appL)
  rw [hgv] at hrl
  have hrc : RcptRd (fun w => Mem w0 w ((some b10, blk (⟨kind, false, Vector.replicate 32 0#8, status, used, bl, sl ob 0 gs.length c1⟩ : RcptC).C 30) :: (ob, blk (lgC gs ++ r1) 63) :: (some b8, blk RcptZ.C 30) :: (lgs 24 5 gs ++ N))) (⟨kind, false, Vector.replicate 32 0#8, status, used, bl, sl ob 0 gs.length c1⟩ : RcptC).C ⟨kind, false, Vector.replicate 32 0#8, status, used, bl, logs⟩ := by
   have hvl2 : View (fun w => Mem w0 w ((some b10, blk (⟨kind, false, Vector.replicate 32 0#8, status, used, bl, sl ob 0 gs.length c1⟩ : RcptC).C 30) :: (ob, blk (lgC gs ++ r1) 63) :: (some b8, blk RcptZ.C 30) :: (lgs 24 5 gs ++ N))) (ob.map fun k => ⟨k, 0, none⟩) logs.length c1 22 (lgC gs) := by rw [← hgl]; exact hvl
   have := RcptRd.mk (kind := kind) (rooted := false) (root := Vector.replicate 32 0#8) (status := status) (used := used) (bloom := bl) (logs := logs) hkb hvl2 hrl
   rw [← hgl] at this
   exact this
  (repeat (first | refine CW.seq ?_ | refine QW.then_n ?_ | refine CW.block ?_ | refine CW.ret ?_ | refine CW.skip ?_ | refine CW.exit ?_ | refine QW.then_x ?_ | refine QW.then_r ?_ | refine QW.block_n ?_ | refine QW.block_xe ?_ | refine QW.block_xn rfl ?_ | refine QW.block_r ?_))
  refine CW.region (OW.rv (RV.loadW rfl (List.Mem.head _) rfl rfl rfl rfl (RcptC.C_length _)) rfl ?_)
  refine OW.callG Tryd.call36 rfl (receipt_Check_does w0 (fun w => Mem w0 w ((some b10, blk (⟨kind, false, Vector.replicate 32 0#8, status, used, bl, sl ob 0 gs.length c1⟩ : RcptC).C 30) :: (ob, blk (lgC gs ++ r1) 63) :: (some b8, blk RcptZ.C 30) :: (lgs 24 5 gs ++ N))) ((some b10, blk (⟨kind, false, Vector.replicate 32 0#8, status, used, bl, sl ob 0 gs.length c1⟩ : RcptC).C 30) :: (ob, blk (lgC gs ++ r1) 63) :: (some b8, blk RcptZ.C 30) :: (lgs 24 5 gs ++ N)) (fun w m => m) (⟨kind, false, Vector.replicate 32 0#8, status, used, bl, sl ob 0 gs.length c1⟩ : RcptC).C ⟨kind, false, Vector.replicate 32 0#8, status, used, bl, logs⟩ ce hrc (hg2.mono fun w q => hΦ w (q.drop 3).appR) hce) rfl rfl ?_; rintro _ G9 ⟨hcb, rfl⟩; refine OW.mem (M' := (some b8, blk RcptZ.C 30) :: (some b10, blk (⟨kind, false, Vector.replicate 32 0#8, status, used, bl, sl ob 0 gs.length c1⟩ : RcptC).C 30) :: (ob, blk (lgC gs ++ r1) 63) :: (lgs 24 5 gs ++ N)) (fun w m => (m.appR).pick [2, 0, 1] 3 rfl rfl) ?_
  refine OW.rv (RV.assign rfl) rfl (OW.nil ?_)
  (refine QW.then_n ?_; refine CW.seq ?_)
  refine CW.region (OW.rv (RV.move rfl) rfl (OW.rv (RV.neq rfl rfl) rfl (OW.nil (QW.then_n ?_))))
  refine CW.cond_np rfl (fun hne => ?_) (fun hne => ?_)
  ·rw [if_neg (by omega)] at hf
   obtain ⟨rfl, rfl⟩ := Prod.mk.inj (Option.some.inj hf)
   refine CW.seq (CW.region (OW.rv (RV.buildSt (l := RcptZ.C) (cs := RcptZ.C) [] rfl rfl rfl (by kernel_rfl) rfl rfl rfl) rfl (OW.rv (RV.move rfl) rfl (OW.sv (SV.storeW rfl rfl rfl (RcptC.C_one _ rfl) rfl (RcptC.C_length _) (RcptC.C_length _)) (OW.rv (RV.assign rfl) rfl (OW.nil ?_))))))
   (refine QW.then_n ?_; refine CW.ret ?_; refine QW.then_r ?_)
   refine QW.retG (rs := [.cell 8 30, .tmp 9]) [.agg RcptZ.C.toArray, .int .i64 (ce : Int)] ((none, blk [] 63) :: []) rfl ?_ rfl (DecO.zero (by omega) _) (fun w m => (m.tail.tail.tail.appR).nil_ent _) _ (.inl rfl)
   exact ⟨⟨_, _, _, _, rfl, List.Mem.head _, rfl, rfl, congrArg some (RcptC.C_length _).symm, rfl⟩, rfl, trivial⟩
  ·rw [if_pos (by omega)] at hf
   obtain ⟨rfl, rfl⟩ := Prod.mk.inj (Option.some.inj hf)
   (refine CW.skip ?_; refine QW.then_n ?_; refine CW.seq ?_)
   refine CW.region (OW.rv (RV.loadW rfl (List.Mem.tail _ (List.Mem.head _)) rfl rfl rfl rfl (RcptC.C_length _)) rfl (OW.sv (SV.storeW rfl rfl rfl (RcptC.C_one _ rfl) rfl (RcptC.C_length _) (RcptC.C_length _)) (OW.rv (RV.assign rfl) rfl (OW.nil ?_))))
   (refine QW.then_n ?_; refine CW.ret ?_)
   refine QW.retG (rs := [.cell 8 30, .tmp 9]) [.agg (⟨kind, false, Vector.replicate 32 0#8, status, used, bl, sl ob 0 gs.length c1⟩ : RcptC).C.toArray, .int .i64 0] ((ob, blk (lgC gs ++ r1) 63) :: (lgs 24 5 gs ++ [])) rfl ?_ rfl ⟨gs, ob, c1, r1, [], hok, hoi, hgv, by omega, hkb, rfl, rfl⟩ (fun w m => ?_) _ (.inl rfl)
   ·exact ⟨⟨_, _, _, _, rfl, List.Mem.head _, rfl, rfl, congrArg some (RcptC.C_length _).symm, rfl⟩, rfl, trivial⟩
   ·have m2 := m.tail.tail
    simpa only [List.append_assoc, List.cons_append, List.append_nil] using m2
abbrev TwC (gs : List Lg) (m : Nat) : List Value := lgC gs ++ (zc m ++ LgMk.C)
theorem waybilllaw17_twin_own (w0 : World) (Φ : Ctx) (N : List Ent) (hΦ : ∀ w, Mem w0 w N → Φ w) (A : Option Addr) (c : Nat) (cs : List Value) (logs x : List Log) (va : View Φ A logs.length c 22 cs) (ha : Reps (LogRd Φ) cs logs) (hf : waybilllaw17_twin logs = some x) :
  DoesG Tryd.prog 18 [.slice A logs.length c] w0 [] N (fun v G => ∃ (gs : List Lg) (b : Nat), (∀ g ∈ gs, LgM g) ∧ gs.map Lg.val = x ∧ x.length * 72 ≤ 140737488355328 ∧ v = sl (some b) 0 x.length (x.length + 1) ∧ G = (some b, blk (lgC gs ++ LgMk.C) 63) :: lgs 24 5 gs) := by
 have hm := va.mx
 unfold waybilllaw17_twin at hf
 obtain ⟨hfit, hf⟩ := some_if hf
 obtain rfl := Option.some.inj hf
 simp only [twfit, Bool.and_eq_true, List.all_eq_true, decide_eq_true_eq] at hfit
 obtain ⟨hfit1, hfit2⟩ := hfit
 refine DoesG.enter Tryd.func18 rfl Tryd.ntmps18 rfl (M := N) rfl (CW.seq (CW.region (OW.rv (RV.assign rfl) rfl (OW.nil ?_))))
 (refine QW.then_n ?_; refine CW.seq ?_)
 refine CW.region (OW.rv (RV.move rfl) rfl (OW.rv (RV.len rfl rfl) rfl (OW.rv (RV.add rfl rfl (by omega)) rfl (OW.makeS (zs := LogZ0.C) (logs.length + 1) (logs.length + 1) rfl (by omega) rfl (by omega) rfl rfl rfl (by kernel_rfl) (LogC.C_length _) (by omega) (by simp only [i63]; omega) (by omega) rfl (fun b9 => (OW.rv (RV.assign rfl) rfl (OW.nil ?_)))))))
 (refine QW.then_n ?_; refine CW.seq ?_)
 refine CW.region (OW.rv (RV.move rfl) rfl (OW.rv (RV.move rfl) rfl (OW.rv (RV.len rfl rfl) rfl (OW.rv (RV.buildA (l := List.replicate 20 (.int .u8 0)) (cs := u8s mk20.toList) rfl rfl rfl (by kernel_rfl) rfl rfl rfl) rfl ?_))))
 refine OW.rv (RV.buildSt (l := LogZ0.C) (cs := LgMk.C) [(0, u8s mk20.toList)] rfl rfl rfl (by kernel_rfl) rfl rfl (by refine (fillL_cons rfl ((u8s_length _).trans Vector.length_toList) (by rw [LogC.C_length]; exact Nat.le_of_ble_eq_true rfl)).trans ?_; rw [LogC.C_address_spl]; rfl)) rfl ?_
 refine OW.rv (RV.idx_os (logs.length) rfl rfl rfl rfl rfl rfl (by omega)) rfl ?_
 refine OW.sv (SV.storeAs rfl rfl rfl (LogC.C_one _ rfl rfl) rfl (LogC.C_length _) (by show 0 + logs.length * 22 + 22 ≤ (zc (logs.length + 1)).length; rw [zc_length]; omega)) ?_; refine OW.cells (TwC [] logs.length) (by rw [Nat.zero_add]; exact tw_mark _) ?_
 refine OW.nil ?_
 (refine QW.then_n ?_; refine CW.seq ?_; refine CW.seq ?_)
 refine CW.region (OW.rv (RV.assign rfl) rfl (OW.nil ?_))
 (refine QW.then_n ?_; refine CW.block ?_)
 refine CW.loopJ (fun k L' M' => ∃ (i : Nat) (gs : List Lg), k = logs.length - i ∧ i ≤ logs.length ∧ gs.map Lg.val = logs.take i ∧ (∀ g ∈ gs, LgM g) ∧ L' = [(0, .slice A logs.length c), (3, sl (some b9) 0 (logs.length + 1) (logs.length + 1)), (4, .int .i64 (i : Int))] ∧
  M' = (some b9, blk (TwC gs (logs.length - i)) 63) :: (lgs 24 5 gs ++ N)) (k0 := logs.length) ⟨0, [], rfl, by omega, rfl, (fun g hg => by cases hg), rfl, rfl⟩ ⟨rfl, rfl, rfl, trivial⟩ (fun w m => m) ?_
 rintro k L' M' ⟨i, gs, rfl, hi, hgv, hok, rfl, rfl⟩
 have hgl : gs.length = i := by have := congrArg List.length hgv; rw [List.length_map, List.length_take] at this; omega
 (refine CW.seq ?_; refine CW.seq ?_)
 refine CW.region (OW.rv (RV.move rfl) rfl (OW.rv (RV.move rfl) rfl (OW.rv (RV.len rfl rfl) rfl (OW.rv (RV.lss rfl rfl) rfl (OW.nil (QW.then_n ?_))))))
 refine CW.cond_p rfl (fun hlt2 => ?_) (fun hlt2 => ?_)
 ·have h1 : i < logs.length := by omega
  have hx : logs[i]? = some logs[i] := List.getElem?_eq_getElem h1
  obtain ⟨ci, hci, hcc⟩ := ha.get LogRd.len hx
  obtain ⟨At, ct, cst, Ad, cd, rfl, vt, ht, vd⟩ := LogRd.opn hci
  have hst := hs32_of ht
  subst hst
  obtain ⟨hfx, hfd⟩ := hfit1 _ (List.getElem_mem h1)
  have hmt := vt.mx
  have hmd := vd.mx
  have hsome := va.isSome (by decide) h1
  generalize hlx : logs[i] = lx at *
  (refine CW.skip ?_; refine QW.then_n ?_; refine CW.seq ?_; refine CW.block ?_; refine CW.seq ?_)
  refine CW.region (OW.rv (RV.move rfl) rfl (OW.rv (RV.move rfl) rfl (OW.rv (RV.idx_rs (i) rfl rfl rfl rfl rfl hsome (by omega)) rfl (OW.rv (RV.field_at rfl rfl rfl rfl) rfl (OW.rv (RV.load_at rfl rfl rfl (fun w m => va.load_fld (hΦ w (m.drop 1).appR) hcc (LogC.C_topics _))) rfl (OW.rv (RV.len rfl rfl) rfl (OW.rv (RV.add rfl rfl (by omega)) rfl ?_)))))))
  refine OW.makeS (zs := u8s (Vector.replicate 32 0#8).toList) (lx.topics.length + 1) (lx.topics.length + 1) rfl (by omega) rfl (by omega) rfl rfl rfl (by kernel_rfl) ((u8s_length _).trans Vector.length_toList) (by omega) (by simp only [i24]; omega) (by omega) rfl (fun bt => (OW.rv (RV.assign rfl) rfl (OW.nil ?_)))
  (refine QW.then_n ?_; refine CW.seq ?_)
  refine CW.region (OW.rv (RV.move rfl) rfl (OW.rv (RV.move rfl) rfl (OW.rv (RV.move rfl) rfl (OW.rv (RV.idx_rs (i) rfl rfl rfl rfl rfl hsome (by omega)) rfl (OW.rv (RV.field_at rfl rfl rfl rfl) rfl (OW.rv (RV.load_at rfl rfl rfl (fun w m => va.load_fld (hΦ w (m.drop 2).appR) hcc (LogC.C_topics _))) rfl ?_))))))
  refine OW.copyS (s := 32) rfl rfl rfl rfl (fun e => nomatch e) (by rw [Nat.zero_add, List.length_flatten, List.map_replicate, List.sum_replicate_nat, u8s_length, Vector.length_toList]; exact Nat.le_refl _) (fun w m => vt.rd w (hΦ w (m.drop 2).appR)) vt.n (hs32_one _) (vt.zero (by decide)) rfl ?_; refine OW.cells (hs32 lx.topics ++ u8s (Vector.replicate 32 0#8).toList) (make_copyS (hs32 lx.topics) (u8s (Vector.replicate 32 0#8).toList) ((u8s_length _).trans Vector.length_toList) (hs32_length _) (by omega)) ?_
  refine OW.nil ?_
  (refine QW.then_n ?_; refine CW.seq ?_)
  refine CW.region (OW.rv (RV.move rfl) rfl (OW.rv (RV.move rfl) rfl (OW.rv (RV.move rfl) rfl (OW.rv (RV.idx_rs (i) rfl rfl rfl rfl rfl hsome (by omega)) rfl (OW.rv (RV.field_at rfl rfl rfl rfl) rfl (OW.rv (RV.load_at rfl rfl rfl (fun w m => va.load_fld (hΦ w (m.drop 2).appR) hcc (LogC.C_topics _))) rfl (OW.rv (RV.len rfl rfl) rfl ?_)))))))
  refine OW.rv (RV.buildA (l := List.replicate 32 (.int .u8 0)) (cs := u8s mk32.toList) rfl rfl rfl (by kernel_rfl) rfl rfl rfl) rfl (OW.rv (RV.idx_os (lx.topics.length) rfl rfl rfl rfl rfl rfl (by omega)) rfl ?_)
  refine OW.sv (SV.storeAs rfl rfl rfl (u8s_one _) rfl ((u8s_length _).trans Vector.length_toList) (by show 0 + lx.topics.length * 32 + 32 ≤ _; rw [List.length_append, hs32_length, u8s_length, Vector.length_toList]; omega)) ?_; refine OW.cells (hs32 lx.topics ++ u8s mk32.toList) (by rw [Nat.zero_add]; exact tw_topic _ _ ((u8s_length _).trans Vector.length_toList)) ?_
  refine OW.nil (QW.then_n (CW.drawsX ((some bt, blk (hs32 lx.topics ++ u8s mk32.toList) 24) :: (lgs 24 5 gs ++ N)) [23] (fun w m => m.pick [0] 2 rfl rfl) mixed (by kernel_rfl) (XW.rs 0 rfl (by kernel_rfl) rfl (RV.move rfl) rfl (XW.rs 1 rfl (by kernel_rfl) rfl (RV.move rfl) rfl (XW.rs 2 rfl (by kernel_rfl) rfl (RV.move rfl) rfl (XW.rs 3 rfl (by kernel_rfl) rfl (RV.move rfl) rfl (XW.rs 4 rfl (by kernel_rfl) rfl (RV.idx_rs (i) rfl rfl rfl rfl rfl hsome (by omega)) rfl (XW.rs 5 rfl (by kernel_rfl) rfl (RV.field_at rfl rfl rfl rfl) rfl ?_))))))))
  refine XW.rs 6 rfl (by kernel_rfl) rfl (RV.loadAs rfl rfl rfl rfl (fun w m => va.load_part (hΦ w (m.drop 1).appR) hcc (LogC.C_address_all _)) ((u8s_length _).trans Vector.length_toList)) rfl (XW.rs 7 rfl (by kernel_rfl) rfl (RV.move rfl) rfl (XW.rs 8 rfl (by kernel_rfl) rfl (RV.move rfl) rfl (XW.rs 9 rfl (by kernel_rfl) rfl (RV.move rfl) rfl (XW.rs 10 rfl (by kernel_rfl) rfl (RV.idx_rs (i) rfl rfl rfl rfl rfl hsome (by omega)) rfl (XW.rs 11 rfl (by kernel_rfl) rfl (RV.field_at rfl rfl rfl rfl) rfl (XW.rs 12 rfl (by kernel_rfl) rfl (RV.load_at rfl rfl rfl (fun w m => va.load_fld (hΦ w (m.drop 1).appR) hcc (LogC.C_topics _))) rfl (XW.rs 13 rfl (by kernel_rfl) rfl (RV.len rfl rfl) rfl ?_)))))))
  refine XW.rs 14 rfl (by kernel_rfl) rfl (RV.cut_o (lx.topics.length) rfl rfl rfl rfl rfl (by omega)) rfl (XW.rs 15 rfl (by kernel_rfl) rfl (RV.move rfl) rfl (XW.rs 16 rfl (by kernel_rfl) rfl (RV.move rfl) rfl (XW.rs 17 rfl (by kernel_rfl) rfl (RV.idx_rs (i) rfl rfl rfl rfl rfl hsome (by omega)) rfl (XW.rs 18 rfl (by kernel_rfl) rfl (RV.field_at rfl rfl rfl rfl) rfl (XW.rs 19 rfl (by kernel_rfl) rfl (RV.load_at rfl rfl rfl (fun w m => va.load_fld (hΦ w (m.drop 1).appR) hcc (LogC.C_data _))) rfl ?_)))))
  refine XW.callG 20 rfl (by kernel_rfl) rfl Tryd.call38 rfl (fun N' hN' => waybilllaw17_lent_raw w0 Φ N' (fun w m => hΦ w ((hN' w m).drop 2).appR) Ad cd lx.data lx.data vd (by unfold waybilllaw17_lent lentN; exact if_pos (by omega))) rfl ?_
  rintro _ _ ⟨bd, od, _, rfl, rfl⟩
  generalize hg : (⟨lx.address, some bt, lx.topics, lx.topics.length + 1, u8s mk32.toList, some bd, lx.data, lx.data.length + 70, u8s (List.replicate 70 195#8) ++ []⟩ : Lg) = g
  have gm : LgM g := by
   rw [← hg]
   exact ⟨⟨⟨hs32_length _, by show (hs32 lx.topics ++ u8s mk32.toList).length = (lx.topics.length + 1) * 32; rw [List.length_append, hs32_length, u8s_length, Vector.length_toList]; omega, (fun e => nomatch e), by show lx.topics.length ≤ _; omega⟩, od⟩, rfl, rfl, rfl, rfl, by show lx.topics.length + 1 ≤ _; omega, by show lx.data.length + 70 ≤ _; omega⟩
  have gval : g.val = lx := by rw [← hg]; rfl
  have gent : g.ents 24 5 = [(some bt, blk (hs32 lx.topics ++ u8s mk32.toList) 24), (some bd, blk (u8s lx.data ++ (u8s (List.replicate 70 195#8) ++ [])) 5)] := by rw [← hg]; rfl
  refine XW.rs 21 rfl (by kernel_rfl) rfl (RV.buildSt (l := LogZ0.C) (cs := g.cells) [(0, u8s lx.address.toList), (1, [sl (some bt) 0 lx.topics.length (lx.topics.length + 1)]), (2, [sl (some bd) 0 lx.data.length (lx.data.length + 70)])] rfl rfl rfl (by kernel_rfl) rfl rfl (by
   rw [← hg]
   refine (fillL_cons rfl ((u8s_length _).trans Vector.length_toList) (by rw [LogC.C_length]; exact Nat.le_of_ble_eq_true rfl)).trans ?_; rw [LogC.C_address_spl]
   refine (fillL_cons rfl rfl (by rw [LogC.C_length]; exact Nat.le_of_ble_eq_true rfl)).trans ?_; rw [spl_one (by rw [LogC.C_length]; exact Nat.le_of_ble_eq_true rfl), LogC.C_topics_set]
   refine (fillL_cons rfl rfl (by rw [LogC.C_length]; exact Nat.le_of_ble_eq_true rfl)).trans ?_; rw [spl_one (by rw [LogC.C_length]; exact Nat.le_of_ble_eq_true rfl), LogC.C_data_set]
   rfl)) rfl ?_
  refine XW.rs 22 rfl (by kernel_rfl) rfl (RV.idx_os (i) rfl rfl rfl rfl rfl rfl (by omega)) rfl (XW.mem (M' := (some b9, blk (TwC gs (logs.length - i)) 63) :: (some bt, blk (hs32 lx.topics ++ u8s mk32.toList) 24) :: (some bd, blk (u8s lx.data ++ (u8s (List.replicate 70 195#8) ++ [])) 5) :: (lgs 24 5 gs ++ N)) (fun w m => m.pick [2, 1, 0] 3 rfl rfl) (fun w m => m.pick [1] 3 rfl rfl) ?_)
  refine XW.sv 23 rfl (by kernel_rfl) (SV.storeAs rfl rfl rfl g.cells_one rfl g.cells_length (by show 0 + i * 22 + 22 ≤ _; rw [List.length_append, List.length_append, lgC_length, zc_length, LogC.C_length]; omega)) (fun w m => m.pick [1] 3 rfl rfl) ?_
  refine XW.cells (TwC (gs ++ [g]) (logs.length - (i + 1))) (by rw [show logs.length - i = (logs.length - (i + 1)) + 1 by omega]; exact tw_set (show 0 + i * 22 = gs.length * 22 by omega)) ?_
  refine XW.nil (by kernel_rfl) ?_
  (refine QW.block_n ?_; refine QW.then_n ?_)
  refine CW.region (OW.rv (RV.move rfl) rfl (OW.rv (RV.add rfl rfl (by omega)) rfl (OW.rv (RV.assign rfl) rfl (OW.nil ?_))))
  refine QW.againJ (k' := logs.length - (i + 1)) (by omega) ⟨i + 1, gs ++ [g], rfl, by omega, by rw [List.map_append, hgv, List.take_add_one, hx, List.map_cons, gval]; rfl, ?_, rfl, rfl⟩ ⟨rfl, rfl, rfl, trivial⟩ (fun w m => lgs_snoc (X := [_]) (by rw [gent]; exact m)) 
  intro x hx
  rcases List.mem_append.1 hx with hx | hx
  ·exact hok x hx
  ·obtain rfl := List.mem_singleton.1 hx
   exact gm
 ·have hie : i = logs.length := by omega
  subst hie
  rw [List.take_length] at hgv
  (refine CW.exit ?_; refine QW.then_x ?_; refine QW.then_x ?_; refine QW.block_xe ?_; refine QW.then_n ?_; refine CW.seq ?_)
  refine CW.region (OW.rv (RV.move rfl) rfl (OW.rv (RV.move rfl) rfl (OW.rv (RV.len rfl rfl) rfl (OW.rv (RV.cut_o _ rfl rfl rfl rfl rfl (by omega)) rfl (OW.rv (RV.assign rfl) rfl (OW.nil ?_))))))
  (refine QW.then_n ?_; refine CW.ret ?_)
  refine QW.retG (rs := [.tmp 2]) [sl (some b9) 0 logs.length (logs.length + 1)] ((some b9, blk (lgC gs ++ LgMk.C) 63) :: lgs 24 5 gs) rfl ?_ rfl ⟨gs, b9, hok, hgv, hfit2, rfl, rfl⟩ (fun w m => ?_) _ (.inl rfl)
  ·exact ⟨rfl, trivial⟩
  ·rw [Nat.sub_self] at m
   exact m
theorem waybilllaw17_twin_does (w0 : World) (Φ : Ctx) (N : List Ent) (hΦ : ∀ w, Mem w0 w N → Φ w) (A : Option Addr) (c : Nat) (cs : List Value) (logs x : List Log) (va : View Φ A logs.length c 22 cs) (ha : Reps (LogRd Φ) cs logs) (hf : waybilllaw17_twin logs = some x) :
  DoesG Tryd.prog 18 [.slice A logs.length c] w0 [] N (fun v G => ∃ B : List Ent, ∃ Ar0 : Option Addr, ∃ kr0 : Nat, LRooms (More w0 Φ B) Ar0 kr0 x ∧ v = .slice Ar0 x.length kr0 ∧ G = B) :=
 (waybilllaw17_twin_own w0 Φ N hΦ A c cs logs x va ha hf).mono fun v G ⟨gs, b, hok, hv, hl, e1, e2⟩ => by
  subst hv e1 e2
  have hr := lgm_reps (w0 := w0) (Φ := More w0 Φ ((some b, blk (lgC gs ++ LgMk.C) 63) :: lgs 24 5 gs)) (tH := 24) (tB := 5) hok (fun w q => q.2.tail)
  have hc : (lgC gs ++ LgMk.C).length = ((gs.map Lg.val).length + 1) * 22 := by rw [List.length_append, lgC_length, LogC.C_length, List.length_map]; omega
  have ho : OwnS (some b) ((gs.map Lg.val).length + 1) ((gs.map Lg.val).length + 1) 22 (lgC gs ++ LgMk.C) [] := ⟨hc, by rw [List.append_nil]; exact hc, (fun e => nomatch e), by omega⟩
  have hvl := ho.view (te := 63) (w0 := w0) (Ψ := More w0 Φ ((some b, blk (lgC gs ++ LgMk.C) 63) :: lgs 24 5 gs)) (by decide) (fun w q => by rw [List.append_nil]; exact q.2.sublist (List.singleton_sublist.2 (List.mem_cons_self ..)))
  exact ⟨_, _, _, LRooms.mk hvl hr, rfl, rfl⟩
theorem waybilllaw17_stillLogs_does (w0 : World) (Φ : Ctx) (N : List Ent) (hΦ : ∀ w, Mem w0 w N → Φ w) (A0 : Option Addr) (c0 : Nat) (x : List Log) (A1 : Option Addr) (c1 : Nat) (cs1 : List Value) (y : List Log) (r : Bool) (h0 : LRooms Φ A0 c0 x) (va1 : View Φ A1 y.length c1 22 cs1) (ha1 : Reps (LogRd Φ) cs1 y) (hf : waybilllaw17_stillLogs x y = some r) :
  DoesG Tryd.prog 24 [.slice A0 x.length c0, .slice A1 y.length c1] w0 [] N (fun v G => v = .bool r) := by
 obtain ⟨rfl, rfl, hsame⟩ := stillLogs_true hf
 obtain ⟨cs, vb, v0, r0⟩ := h0.opn
 have rl := r0.mono LmRd.log
 have hm := vb.mx
 have hle := vb.le
 have hlen := r0.len LmRd.len
 have hs0 : A0.isSome = true := vb.isSome (by decide) (i := 0) (by omega)
 refine DoesG.enter Tryd.func24 rfl Tryd.ntmps24 rfl (M := N) rfl (CW.seq (CW.region (OW.rv (RV.assign rfl) rfl (OW.nil ?_))))
 (refine QW.then_n ?_; refine CW.seq ?_)
 refine CW.region (OW.rv (RV.move rfl) rfl (OW.rv (RV.move rfl) rfl (OW.rv (RV.len rfl rfl) rfl (OW.rv (RV.add rfl rfl (by omega)) rfl (OW.rv (RV.cut_hi (x.length + 1) rfl rfl (by omega) rfl rfl (by omega)) rfl (OW.rv (RV.assign rfl) rfl (OW.nil ?_)))))))
 (refine QW.then_n ?_; refine CW.seq ?_; refine CW.seq ?_)
 refine CW.region (OW.rv (RV.move rfl) rfl (OW.rv (RV.move rfl) rfl (OW.callG Tryd.call45 rfl (waybilllaw17_sameLogs_does w0 Φ N hΦ A0 c0 cs x A1 c1 cs1 x true v0 rl va1 ha1 hsame) rfl rfl ?_)))
 rintro _ G1 rfl
 refine OW.mem (M' := N) (fun w m => m.appR) (OW.rv (RV.not rfl) rfl (OW.rv (RV.move rfl) rfl (OW.want rfl (OW.rv (RV.move rfl) rfl (OW.want rfl (OW.rv (RV.move rfl) rfl (OW.want rfl ?_)))))))
 refine OW.rv (RV.len rfl rfl) rfl (OW.want rfl (OW.rv (RV.idx_rs (x.length) rfl rfl rfl rfl rfl hs0 (by omega)) rfl (OW.want rfl (OW.rv (RV.field_at rfl rfl rfl rfl) rfl (OW.want rfl ?_)))))
 refine OW.rv (RV.loadAs (vs := u8s mk20.toList) rfl rfl rfl rfl (fun w m => vb.load_part (hΦ w m) (cs := LgMk.C) (fun j u hj => by rw [List.getElem?_append_right (by show cs.length ≤ x.length * 22 + j; omega)]; rw [show x.length * i63.sz + j - cs.length = j by show x.length * 22 + j - cs.length = j; omega]; exact hj) (LogC.C_address_all LgMk)) ((u8s_length _).trans Vector.length_toList)) rfl ?_
 refine OW.want rfl (OW.rv (RV.buildA (l := List.replicate 20 (.int .u8 0)) (cs := u8s mk20.toList) rfl rfl rfl (by kernel_rfl) rfl rfl rfl) rfl (OW.want rfl (OW.rv (RV.neA8_f rfl rfl rfl rfl rfl rfl (Vector.length_toList) rfl) rfl (OW.rv (RV.pick_f rfl rfl rfl) rfl (OW.nil (QW.then_n (CW.cond_f rfl ?_)))))))
 (refine CW.skip ?_; refine QW.then_n ?_; refine CW.seq ?_; refine CW.seq ?_)
 refine CW.region (OW.rv (RV.assign rfl) rfl (OW.nil ?_))
 (refine QW.then_n ?_; refine CW.block ?_)
 refine CW.loopJ (fun k L' M' => ∃ (i : Nat), k = x.length - i ∧ i ≤ x.length ∧ L' = [(0, .slice A0 x.length c0), (1, .slice A1 x.length c1), (6, .int .i64 (i : Int))] ∧
  M' = N) (k0 := x.length) ⟨0, rfl, by omega, rfl, rfl⟩ ⟨rfl, rfl, rfl, trivial⟩ (fun w m => m) ?_
 rintro k L' M' ⟨i, rfl, hi, rfl, hM⟩
 rw [hM]
 clear hM M'
 (refine CW.seq ?_; refine CW.seq ?_)
 refine CW.region (OW.rv (RV.move rfl) rfl (OW.rv (RV.move rfl) rfl (OW.rv (RV.len rfl rfl) rfl (OW.rv (RV.lss rfl rfl) rfl (OW.nil (QW.then_n ?_))))))
 refine CW.cond_p rfl (fun hlt2 => ?_) (fun hlt2 => ?_)
 ·have h1 : i < x.length := by omega
  have hx : x[i]? = some x[i] := List.getElem?_eq_getElem h1
  obtain ⟨ci, hci, hcc⟩ := ha1.get LogRd.len hx
  obtain ⟨At, ct, cst, Ad, cd, rfl, vt, ht, vd⟩ := LogRd.opn hci
  obtain ⟨cj, ⟨B1, B2, hcj, w1, w2⟩, hcd⟩ := r0.get LmRd.len hx
  subst hcj
  have hs1 := va1.isSome (by decide) h1
  have hst := still17_eq (x[i]).data
  have hmw := w1.mx
  have hsw := w1.isSome (by decide) (i := (x[i]).topics.length) (by omega)
  generalize hlx : x[i] = lx at *
  have hl32 : (hs32 lx.topics).length = lx.topics.length * 32 := hs32_length _
  (refine CW.skip ?_; refine QW.then_n ?_; refine CW.seq ?_; refine CW.block ?_; refine CW.seq ?_)
  refine CW.region (OW.rv (RV.move rfl) rfl (OW.rv (RV.move rfl) rfl (OW.rv (RV.idx_rs (i) rfl rfl rfl rfl rfl hs1 (by omega)) rfl (OW.rv (RV.field_at rfl rfl rfl rfl) rfl (OW.rv (RV.load_at rfl rfl rfl (fun w m => va1.load_fld (hΦ w m) hcc (LogC.C_topics _))) rfl (OW.rv (RV.len rfl rfl) rfl (OW.rv (RV.assign rfl) rfl ?_)))))))
  refine OW.nil ?_
  (refine QW.then_n ?_; refine CW.seq ?_)
  refine CW.region (OW.rv (RV.move rfl) rfl (OW.rv (RV.move rfl) rfl (OW.rv (RV.idx_rs (i) rfl rfl rfl rfl rfl hs0 (by omega)) rfl (OW.rv (RV.field_at rfl rfl rfl rfl) rfl (OW.rv (RV.load_at rfl rfl rfl (fun w m => v0.load_fld (hΦ w m) hcd (LogC.C_topics _))) rfl (OW.rv (RV.move rfl) rfl (OW.rv (RV.add rfl rfl (by omega)) rfl ?_)))))))
  refine OW.rv (RV.cut_hi (lx.topics.length + 1) rfl rfl (by omega) rfl rfl (by omega)) rfl (OW.rv (RV.assign rfl) rfl (OW.nil ?_))
  (refine QW.then_n ?_; refine CW.seq ?_)
  refine CW.drawsX N [] (fun w m => m) mixed (by kernel_rfl) (XW.rs 0 rfl (by kernel_rfl) rfl (RV.move rfl) rfl (XW.rs 1 rfl (by kernel_rfl) rfl (RV.move rfl) rfl (XW.rs 2 rfl (by kernel_rfl) rfl (RV.idx_rs (lx.topics.length) rfl rfl rfl rfl rfl hsw (by omega)) rfl ?_)))
  refine XW.rs 3 rfl (by kernel_rfl) rfl (RV.loadAs (vs := u8s mk32.toList) rfl rfl rfl rfl (fun w m => w1.load (hΦ w m) (fun j u hj => by rw [List.getElem?_append_right (by show _ ≤ lx.topics.length * 32 + j; omega)]; rw [show lx.topics.length * i24.sz + j - (hs32 lx.topics).length = j by show lx.topics.length * 32 + j - _ = j; omega]; exact hj)) ((u8s_length _).trans Vector.length_toList)) rfl ?_
  refine XW.rs 4 rfl (by kernel_rfl) rfl (RV.buildA (l := List.replicate 32 (.int .u8 0)) (cs := u8s mk32.toList) rfl rfl rfl (by kernel_rfl) rfl rfl rfl) rfl (XW.rs 5 rfl (by kernel_rfl) rfl (RV.neA8_f rfl rfl rfl rfl rfl rfl (Vector.length_toList) rfl) rfl (XW.rs 6 rfl (by kernel_rfl) rfl (RV.move rfl) rfl (XW.rs 7 rfl (by kernel_rfl) rfl (RV.move rfl) rfl (XW.rs 8 rfl (by kernel_rfl) rfl (RV.move rfl) rfl (XW.rs 9 rfl (by kernel_rfl) rfl (RV.idx_rs (i) rfl rfl rfl rfl rfl hs0 (by omega)) rfl (XW.rs 10 rfl (by kernel_rfl) rfl (RV.field_at rfl rfl rfl rfl) rfl (XW.rs 11 rfl (by kernel_rfl) rfl (RV.load_at rfl rfl rfl (fun w m => v0.load_fld (hΦ w m) hcd (LogC.C_data _))) rfl ?_)))))))
  refine XW.rs 12 rfl (by kernel_rfl) rfl (RV.move rfl) rfl (XW.rs 13 rfl (by kernel_rfl) rfl (RV.move rfl) rfl (XW.rs 14 rfl (by kernel_rfl) rfl (RV.idx_rs (i) rfl rfl rfl rfl rfl hs1 (by omega)) rfl (XW.rs 15 rfl (by kernel_rfl) rfl (RV.field_at rfl rfl rfl rfl) rfl (XW.rs 16 rfl (by kernel_rfl) rfl (RV.load_at rfl rfl rfl (fun w m => va1.load_fld (hΦ w m) hcc (LogC.C_data _))) rfl ?_))))
  refine XW.callG 17 rfl (by kernel_rfl) rfl Tryd.call41 rfl (fun N' hN' => waybilllaw17_still_does w0 Φ N' (fun w m => hΦ w (hN' w m)) B2 (lx.data.length + 70) lx.data Ad cd lx.data true (by rw [List.length_append, List.length_replicate]; exact w2) vd hst) rfl ?_
  rintro _ G2 rfl
  refine XW.mem (M' := N) (fun w m => m.appR) (fun w m => m) (XW.rs 18 rfl (by kernel_rfl) rfl (RV.not rfl) rfl (XW.rs 19 rfl (by kernel_rfl) rfl (RV.pick_f rfl rfl rfl) rfl (XW.nil (by kernel_rfl) (QW.then_n (CW.cond_f rfl ?_)))))
  (refine CW.skip ?_; refine QW.block_n ?_; refine QW.then_n ?_)
  refine CW.region (OW.rv (RV.move rfl) rfl (OW.rv (RV.add rfl rfl (by omega)) rfl (OW.rv (RV.assign rfl) rfl (OW.nil ?_))))
  refine QW.againJ (k' := x.length - (i + 1)) (by omega) ⟨i + 1, rfl, by omega, rfl, rfl⟩ ⟨rfl, rfl, rfl, trivial⟩ (fun w m => m)
 ·(refine CW.exit ?_; refine QW.then_x ?_; refine QW.then_x ?_; refine QW.block_xe ?_; refine QW.then_n ?_; refine CW.seq ?_)
  refine CW.region (OW.rv (RV.assign rfl) rfl (OW.nil ?_))
  (refine QW.then_n ?_; refine CW.ret ?_)
  refine QW.retG (rs := [.tmp 4]) [.bool true] [] rfl ?_ rfl rfl (fun w m => m) _ (.inl rfl)
  exact ⟨rfl, trivial⟩
theorem waybilllaw17_stand_does (w0 : World) (Φ : Ctx) (N : List Ent) (hΦ : ∀ w, Mem w0 w N → Φ w) (A0_ : Option Addr) (c0_ : Nat) (cs0_ : List Value) (a0 : List (Log)) (a1 : BitVec 8) (res0 : Bool) (va0 : View Φ A0_ a0.length c0_ 22 cs0_) (ha0 : Reps (LogRd Φ) cs0_ a0) (hf : waybilllaw17_stand a0 a1 = some res0) : DoesG Tryd.prog 56 [.slice A0_ a0.length c0_, U8 a1] w0 [] N (fun v G => v = .bool res0) := by
 unfold waybilllaw17_stand at hf
 replace va0 := va0.mono (Ψ := More w0 Φ []) (fun w q => q.1)
 replace ha0 := ha0.mono (LogRd.mono (Ψ := More w0 Φ []) (fun w q => q.1))
 have m1 := va0.mx
 refine DoesG.enter Tryd.func56 rfl Tryd.ntmps56 rfl (M := (([] ++ N))) rfl (CW.seq (CW.region (OW.rv (RV.assign rfl) rfl (OW.nil (QW.then_n (CW.seq (CW.seq (CW.region (OW.rv (RV.assign rfl) rfl (OW.nil (QW.then_n ?_)))))))))))
 obtain ⟨q2, hq3, hf⟩ := some_bind hf
 refine CW.cutJ (fun L' M' => q2 = Lp.go () ∧ L' = [] ∧ M' = (([] ++ N))) ?_ ?_
 ·rintro L5 M6 ⟨e4, e7, e8⟩
  rw [e7, e8]
  clear e7 e8 L5 M6
  clear hq3
  rw [e4] at hf
  clear e4
  try dsimp only at hf
  refine QW.then_n (CW.seq (CW.region (OW.rv (RV.assign rfl) rfl (OW.nil (QW.then_n (CW.ret ?_))))))
  have e0 := Option.some.inj hf
  subst e0
  refine QW.retG (rs := [.tmp 4]) ([.bool true]) ([]) rfl ?_ rfl ?_ ?_ _ (.inl rfl)
  ·exact ⟨rfl, trivial⟩
  ·exact rfl
  ·exact (fun w m => m)
 ·skip
  refine CW.block (CW.loopJ (fun k L' M' => ∃ n9 : Nat, (waybilllaw17_stand.l1 a0 a1 k n9) = some q2 ∧ (n9 ≤ 9223372036854775807) ∧ L' = [(0, .slice A0_ a0.length c0_), (1, U8 a1), (5, .int .i64 ((n9 : Nat) : Int))] ∧ M' = (([] ++ N))) (k0 := (a0.length - 0 + 2)) ⟨0, hq3, (by omega), rfl, rfl⟩ ⟨rfl, rfl, rfl, trivial⟩ (fun w m => m.pick [] 0 rfl rfl) ?_)
  clear hq3
  rintro k11 L14 M15 ⟨n9, hl12, b10, e16, e17⟩
  rw [e16, e17]
  clear e16 e17 L14 M15
  rcases k11 with _ | k11
  ·rw [waybilllaw17_stand.l1] at hl12; cases hl12
  rw [waybilllaw17_stand.l1] at hl12
  refine CW.seq (CW.seq (CW.region (OW.rv (RV.move rfl) rfl (OW.rv (RV.move rfl) rfl (OW.rv (RV.len rfl rfl) rfl (OW.rv (RV.lss rfl rfl) rfl (OW.slot (.bool (decide (n9 < a0.length))) (congrArg Value.bool (decide_eq_decide.2 (by omega))) (OW.nil (QW.then_n ?_)))))))))
  by_cases h18 : n9 < a0.length
  ·replace hl12 := if_t hl12 h18
   refine CW.is_t rfl (decide_eq_true h18) (CW.skip (QW.then_n (CW.seq (CW.block (CW.seq (CW.seq (CW.region (OW.rv (RV.assign rfl) rfl (OW.nil (QW.then_n ?_))))))))))
   obtain ⟨q19, hq20, hl12⟩ := some_bind hl12
   refine CW.cutJ (fun L' M' => q19 = Lp.go () ∧ L' = [(0, .slice A0_ a0.length c0_), (1, U8 a1), (5, .int .i64 ((n9 : Nat) : Int))] ∧ M' = (([] ++ N))) ?_ ?_
   ·rintro L22 M23 ⟨e21, e24, e25⟩
    rw [e24, e25]
    clear e24 e25 L22 M23
    clear hq20
    rw [e21] at hl12
    clear e21
    try dsimp only at hl12
    refine QW.then_n (CW.seq (CW.region (OW.rv (RV.assign rfl) rfl (OW.nil (QW.then_n ?_)))))
    obtain ⟨q26, hq27, hl12⟩ := some_bind hl12
    refine CW.cutJ (fun L' M' => q26 = Lp.go () ∧ L' = [(0, .slice A0_ a0.length c0_), (1, U8 a1), (5, .int .i64 ((n9 : Nat) : Int))] ∧ M' = (([] ++ N))) ?_ ?_
    ·rintro L29 M30 ⟨e28, e31, e32⟩
     rw [e31, e32]
     clear e31 e32 L29 M30
     clear hq27
     rw [e28] at hl12
     clear e28
     try dsimp only at hl12
     refine QW.block_n (QW.then_n (CW.region (OW.rv (RV.move rfl) rfl (OW.rv (RV.add rfl rfl (by omega)) rfl (OW.slot (.int .i64 (((n9 + 1) : Nat) : Int)) (by first | rfl | (congr 1) | (congr 1; omega)) (OW.rv (RV.assign rfl) rfl (OW.nil ?_)))))))
     exact QW.againJ (k' := k11) (Nat.lt_succ_self _) ⟨(n9 + 1), hl12, (by omega), rfl, rfl⟩ ⟨rfl, rfl, rfl, trivial⟩ (fun w m => m.pick [] 0 rfl rfl)
    ·skip
     refine CW.block (CW.loopJ (fun k L' M' => ∃ n33 : Nat, (waybilllaw17_stand.l2 a0 a1 n9 k n33) = some q26 ∧ (n33 ≤ 9223372036854775807) ∧ L' = [(0, .slice A0_ a0.length c0_), (1, U8 a1), (5, .int .i64 ((n9 : Nat) : Int)), (7, .int .i64 ((n33 : Nat) : Int))] ∧ M' = (([] ++ N))) (k0 := (((a0[n9]?)).elim 2 fun x37 => (x37.data.length - 0 + 2))) ⟨0, hq27, (by omega), rfl, rfl⟩ ⟨rfl, rfl, rfl, rfl, trivial⟩ (fun w m => m.pick [] 0 rfl rfl) ?_)
     clear hq27
     rintro k35 L38 M39 ⟨n33, hl36, b34, e40, e41⟩
     rw [e40, e41]
     clear e40 e41 L38 M39
     rcases k35 with _ | k35
     ·rw [waybilllaw17_stand.l2] at hl36; cases hl36
     rw [waybilllaw17_stand.l2] at hl36
     refine CW.seq (CW.seq (CW.region (OW.rv (RV.move rfl) rfl (OW.rv (RV.move rfl) rfl (OW.rv (RV.move rfl) rfl ?_)))))
     obtain ⟨x42, hx43, hl36⟩ := some_bind hl36
     have hl44 := lt_of_at hx43
     refine OW.rv (RV.idx_rs (n9) rfl rfl rfl rfl rfl (va0.isSome (by decide) hl44) (by omega)) rfl ?_
     obtain ⟨cs45, h46, h47⟩ := ha0.get LogRd.len hx43
     have h57 := h46
     obtain ⟨A48, c49, cs51, A53, c54, e56, v50, h52, v55⟩ := LogRd.opn h46
     subst e56
     have m58 := v50.mx
     have m59 := v55.mx
     refine OW.rv (RV.field_at rfl rfl rfl rfl) rfl (OW.rv (RV.load_at rfl rfl rfl (fun w m => va0.load_fld (More.of hΦ 0 m rfl) h47 (LogC.C_data (⟨x42.address, .slice A48 x42.topics.length c49, .slice A53 x42.data.length c54⟩ : LogC)))) rfl (OW.rv (RV.len rfl rfl) rfl (OW.rv (RV.lss rfl rfl) rfl (OW.slot (.bool (decide (n33 < x42.data.length))) (congrArg Value.bool (decide_eq_decide.2 (by omega))) (OW.nil (QW.then_n ?_))))))
     by_cases h60 : n33 < x42.data.length
     ·replace hl36 := if_t hl36 h60
      refine CW.is_t rfl (decide_eq_true h60) (CW.skip (QW.then_n (CW.seq (CW.block (CW.seq (CW.region (OW.rv (RV.move rfl) rfl (OW.rv (RV.move rfl) rfl ?_))))))))
      obtain ⟨x61, hx62, hl36⟩ := some_bind hl36
      have hl63 := lt_of_at hx62
      refine OW.rv (RV.idx_rs (n9) rfl rfl rfl rfl rfl (va0.isSome (by decide) hl63) (by omega)) rfl ?_
      obtain ⟨cs64, h65, h66⟩ := ha0.get LogRd.len hx62
      have h76 := h65
      obtain ⟨A67, c68, cs70, A72, c73, e75, v69, h71, v74⟩ := LogRd.opn h65
      subst e75
      have m77 := v69.mx
      have m78 := v74.mx
      refine OW.rv (RV.field_at rfl rfl rfl rfl) rfl (OW.rv (RV.load_at rfl rfl rfl (fun w m => va0.load_fld (More.of hΦ 0 m rfl) h66 (LogC.C_data (⟨x61.address, .slice A67 x61.topics.length c68, .slice A72 x61.data.length c73⟩ : LogC)))) rfl (OW.rv (RV.move rfl) rfl ?_))
      obtain ⟨x79, hx80, hl36⟩ := some_bind hl36
      have hl81 := lt_of_at hx80
      refine OW.rv (RV.idx_r (n33) rfl rfl rfl rfl rfl (v74.isSome (by decide) hl81) (by omega)) rfl (OW.rv (RV.load_at rfl rfl rfl (fun w m => v74.cell (More.of hΦ 0 m rfl) (u8s_at hx80))) rfl (OW.rv (RV.move rfl) rfl (OW.rv (RV.move rfl) rfl (OW.rv (RV.rem rfl rfl (by omega) (by omega)) rfl (OW.slot (.int .i64 ((n9 % 8 : Nat) : Int)) (by first | rfl | (congr 1; omega)) (OW.rv (RV.conv_i8 rfl rfl rfl) rfl (OW.slot (U8 (BitVec.ofNat 8 (n9 % 8))) (congrArg U8 (BitVec.ofInt_natCast ..)) ?_)))))))
      refine OW.rv (RV.add8 rfl (by first | rfl | exact lit8 _ rfl) rfl (by first | rfl | exact lit8 _ rfl)) rfl (OW.rv (RV.neq8 rfl (by first | rfl | exact lit8 _ rfl) rfl (by first | rfl | exact lit8 _ rfl)) rfl (OW.nil (QW.then_n ?_)))
      by_cases h82 : x79 = (a1 + (BitVec.ofNat 8 (n9 % 8)))
      ·replace hl36 := if_t hl36 h82
       refine CW.is_f rfl (congrArg (fun b => !b) (decide_eq_true h82)) (CW.skip (QW.block_n (QW.then_n (CW.region (OW.rv (RV.move rfl) rfl (OW.rv (RV.add rfl rfl (by omega)) rfl (OW.slot (.int .i64 (((n33 + 1) : Nat) : Int)) (by first | rfl | (congr 1) | (congr 1; omega)) (OW.rv (RV.assign rfl) rfl (OW.nil ?_)))))))))
       exact QW.againJ (k' := k35) (Nat.lt_succ_self _) ⟨(n33 + 1), hl36, (by omega), rfl, rfl⟩ ⟨rfl, rfl, rfl, rfl, trivial⟩ (fun w m => m.pick [] 0 rfl rfl)
      ·replace hl36 := if_f hl36 h82
       refine CW.is_t rfl (congrArg (fun b => !b) (decide_eq_false h82)) (CW.seq (CW.region (OW.rv (RV.assign rfl) rfl (OW.nil (QW.then_n (CW.ret (QW.block_r (QW.then_r (QW.then_r (QW.block_r (QW.then_r ?_)))))))))))
       have hc := Option.some.inj hl36
       subst hc
       try dsimp only at hl12
       refine QW.block_r (QW.then_r (QW.then_r (QW.block_r (QW.then_r ?_))))
       have hc := Option.some.inj hl12
       subst hc
       try dsimp only at hf
       refine QW.then_r ?_
       have e0 := Option.some.inj hf
       subst e0
       refine QW.retG (rs := [.tmp 4]) ([.bool false]) ([]) rfl ?_ rfl ?_ ?_ _ (.inl rfl)
       ·exact ⟨rfl, trivial⟩
       ·exact rfl
       ·exact (fun w m => m)
     ·replace hl36 := if_f hl36 h60
      refine CW.is_f rfl (decide_eq_false h60) (CW.exit (QW.then_x (QW.then_x (QW.block_xe ?_))))
      exact QW.join ⟨(Option.some.inj hl36).symm, rfl, rfl⟩ ⟨rfl, rfl, rfl, trivial⟩ (fun w m => m.pick [] 0 rfl rfl)
   ·skip
    refine CW.block (CW.loopJ (fun k L' M' => ∃ n83 : Nat, (waybilllaw17_stand.l3 a0 a1 n9 k n83) = some q19 ∧ (n83 ≤ 9223372036854775807) ∧ L' = [(0, .slice A0_ a0.length c0_), (1, U8 a1), (5, .int .i64 ((n9 : Nat) : Int)), (6, .int .i64 ((n83 : Nat) : Int))] ∧ M' = (([] ++ N))) (k0 := (((a0[n9]?)).elim 2 fun x87 => (x87.topics.length - 0 + 2))) ⟨0, hq20, (by omega), rfl, rfl⟩ ⟨rfl, rfl, rfl, rfl, trivial⟩ (fun w m => m.pick [] 0 rfl rfl) ?_)
    clear hq20
    rintro k85 L88 M89 ⟨n83, hl86, b84, e90, e91⟩
    rw [e90, e91]
    clear e90 e91 L88 M89
    rcases k85 with _ | k85
    ·rw [waybilllaw17_stand.l3] at hl86; cases hl86
    rw [waybilllaw17_stand.l3] at hl86
    refine CW.seq (CW.seq (CW.region (OW.rv (RV.move rfl) rfl (OW.rv (RV.move rfl) rfl (OW.rv (RV.move rfl) rfl ?_)))))
    obtain ⟨x92, hx93, hl86⟩ := some_bind hl86
    have hl94 := lt_of_at hx93
    refine OW.rv (RV.idx_rs (n9) rfl rfl rfl rfl rfl (va0.isSome (by decide) hl94) (by omega)) rfl ?_
    obtain ⟨cs95, h96, h97⟩ := ha0.get LogRd.len hx93
    have h107 := h96
    obtain ⟨A98, c99, cs101, A103, c104, e106, v100, h102, v105⟩ := LogRd.opn h96
    subst e106
    have m108 := v100.mx
    have m109 := v105.mx
    refine OW.rv (RV.field_at rfl rfl rfl rfl) rfl (OW.rv (RV.load_at rfl rfl rfl (fun w m => va0.load_fld (More.of hΦ 0 m rfl) h97 (LogC.C_topics (⟨x92.address, .slice A98 x92.topics.length c99, .slice A103 x92.data.length c104⟩ : LogC)))) rfl (OW.rv (RV.len rfl rfl) rfl (OW.rv (RV.lss rfl rfl) rfl (OW.slot (.bool (decide (n83 < x92.topics.length))) (congrArg Value.bool (decide_eq_decide.2 (by omega))) (OW.nil (QW.then_n ?_))))))
    by_cases h110 : n83 < x92.topics.length
    ·replace hl86 := if_t hl86 h110
     refine CW.is_t rfl (decide_eq_true h110) (CW.skip (QW.then_n (CW.seq (CW.block (CW.seq (CW.region (OW.rv (RV.move rfl) rfl (OW.rv (RV.move rfl) rfl ?_))))))))
     obtain ⟨x111, hx112, hl86⟩ := some_bind hl86
     have hl113 := lt_of_at hx112
     refine OW.rv (RV.idx_rs (n9) rfl rfl rfl rfl rfl (va0.isSome (by decide) hl113) (by omega)) rfl ?_
     obtain ⟨cs114, h115, h116⟩ := ha0.get LogRd.len hx112
     have h126 := h115
     obtain ⟨A117, c118, cs120, A122, c123, e125, v119, h121, v124⟩ := LogRd.opn h115
     subst e125
     have m127 := v119.mx
     have m128 := v124.mx
     refine OW.rv (RV.field_at rfl rfl rfl rfl) rfl (OW.rv (RV.load_at rfl rfl rfl (fun w m => va0.load_fld (More.of hΦ 0 m rfl) h116 (LogC.C_topics (⟨x111.address, .slice A117 x111.topics.length c118, .slice A122 x111.data.length c123⟩ : LogC)))) rfl (OW.rv (RV.move rfl) rfl ?_))
     obtain ⟨x129, hx130, hl86⟩ := some_bind hl86
     have hl131 := lt_of_at hx130
     refine OW.rv (RV.idx_rs (n83) rfl rfl rfl rfl rfl (v119.isSome (by decide) hl131) (by omega)) rfl ?_
     obtain ⟨cs132, h133, h134⟩ := h121.get Ar8Rd.len hx130
     have h133a := h133
     subst h133a
     refine OW.rv (RV.loadAs rfl rfl rfl rfl (fun w m => v119.load (More.of hΦ 0 m rfl) h134) ((u8s_length _).trans Vector.length_toList)) rfl (OW.rv (RV.move rfl) rfl (OW.rv (RV.move rfl) rfl (OW.rv (RV.conv_i8 rfl rfl rfl) rfl (OW.slot (U8 (BitVec.ofNat 8 n9)) (congrArg U8 (BitVec.ofInt_natCast ..)) (OW.rv (RV.move rfl) rfl (OW.rv (RV.quo rfl rfl (by omega) (by omega) (by omega)) rfl (OW.slot (.int .i64 ((n9 / 256 : Nat) : Int)) (by first | rfl | (congr 1; omega)) ?_)))))))
     refine OW.rv (RV.conv_i8 rfl rfl rfl) rfl (OW.slot (U8 (BitVec.ofNat 8 (n9 / 256))) (congrArg U8 (BitVec.ofInt_natCast ..)) ?_)
     refine OW.rv (RV.buildA (l := (u8s (Vector.replicate 32 0#8).toList)) (cs := (u8s ((((Vector.replicate 32 0#8).setIfInBounds 0 a1).setIfInBounds 1 (BitVec.ofNat 8 n9)).setIfInBounds 2 (BitVec.ofNat 8 (n9 / 256))).toList)) rfl rfl rfl (by rw [Vector.toList_replicate, ← u8s_rep']; rfl) rfl rfl (by simp only [setL, List.foldl, ← vset, Vector.toList_replicate, ← u8s_set'] <;> rfl)) rfl ?_
     refine OW.rv (RV.neA8 rfl rfl rfl rfl rfl rfl (Vector.length_toList) (Vector.length_toList)) rfl (OW.slot (.bool (!decide (x129 = ((((Vector.replicate 32 0#8).setIfInBounds 0 a1).setIfInBounds 1 (BitVec.ofNat 8 n9)).setIfInBounds 2 (BitVec.ofNat 8 (n9 / 256)))))) (congrArg (fun b => Value.bool (!b)) (decide_eq_decide.2 Vector.toList_inj)) (OW.nil (QW.then_n ?_)))
     by_cases h135 : x129 = ((((Vector.replicate 32 0#8).setIfInBounds 0 a1).setIfInBounds 1 (BitVec.ofNat 8 n9)).setIfInBounds 2 (BitVec.ofNat 8 (n9 / 256)))
     ·replace hl86 := if_t hl86 h135
      refine CW.is_f rfl (congrArg (fun b => !b) (decide_eq_true h135)) (CW.skip (QW.block_n (QW.then_n (CW.region (OW.rv (RV.move rfl) rfl (OW.rv (RV.add rfl rfl (by omega)) rfl (OW.slot (.int .i64 (((n83 + 1) : Nat) : Int)) (by first | rfl | (congr 1) | (congr 1; omega)) (OW.rv (RV.assign rfl) rfl (OW.nil ?_)))))))))
      exact QW.againJ (k' := k85) (Nat.lt_succ_self _) ⟨(n83 + 1), hl86, (by omega), rfl, rfl⟩ ⟨rfl, rfl, rfl, rfl, trivial⟩ (fun w m => m.pick [] 0 rfl rfl)
     ·replace hl86 := if_f hl86 h135
      refine CW.is_t rfl (congrArg (fun b => !b) (decide_eq_false h135)) (CW.seq (CW.region (OW.rv (RV.assign rfl) rfl (OW.nil (QW.then_n (CW.ret (QW.block_r (QW.then_r (QW.then_r (QW.block_r (QW.then_r ?_)))))))))))
      have hc := Option.some.inj hl86
      subst hc
      try dsimp only at hl12
      refine QW.then_r (QW.block_r (QW.then_r (QW.then_r (QW.block_r (QW.then_r ?_)))))
      have hc := Option.some.inj hl12
      subst hc
      try dsimp only at hf
      refine QW.then_r ?_
      have e0 := Option.some.inj hf
      subst e0
      refine QW.retG (rs := [.tmp 4]) ([.bool false]) ([]) rfl ?_ rfl ?_ ?_ _ (.inl rfl)
      ·exact ⟨rfl, trivial⟩
      ·exact rfl
      ·exact (fun w m => m)
    ·replace hl86 := if_f hl86 h110
     refine CW.is_f rfl (decide_eq_false h110) (CW.exit (QW.then_x (QW.then_x (QW.block_xe ?_))))
     exact QW.join ⟨(Option.some.inj hl86).symm, rfl, rfl⟩ ⟨rfl, rfl, rfl, trivial⟩ (fun w m => m.pick [] 0 rfl rfl)
  ·replace hl12 := if_f hl12 h18
   refine CW.is_f rfl (decide_eq_false h18) (CW.exit (QW.then_x (QW.then_x (QW.block_xe ?_))))
   exact QW.join ⟨(Option.some.inj hl12).symm, rfl, rfl⟩ trivial (fun w m => m.pick [] 0 rfl rfl)
theorem waybilllaw17_written_does (w0 : World) (N : List Ent) (ob : Option Nat) (c : Nat) (r : List Value) (gs : List Lg) (mark : BitVec 8) (hok : ∀ g ∈ gs, g.Ok) (ho : OwnS ob gs.length c 22 (lgC gs) r) :
  DoesG Tryd.prog 54 [sl ob 0 gs.length c, U8 mark] w0 ((ob, blk (lgC gs ++ r) 63) :: lgs 24 5 gs) N (fun v G => ∃ hs : List Lg, SameG gs hs ∧ Wrt mark hs.length hs ∧ hs.map (fun g => (g.t.length, g.d.length)) = gs.map (fun g => (g.t.length, g.d.length)) ∧ v = .tuple #[] ∧ G = (ob, blk (lgC hs ++ r) 63) :: lgs 24 5 hs) := by
 have hm := ho.mx
 refine DoesG.enter Tryd.func54 rfl Tryd.ntmps54 rfl (M := (ob, blk (lgC gs ++ r) 63) :: (lgs 24 5 gs ++ N)) rfl (CW.seq (CW.region (OW.rv (RV.assign rfl) rfl (OW.nil ?_))))
 (refine QW.then_n ?_; refine CW.block ?_)
 refine CW.loopJ (fun k L' M' => ∃ (i : Nat) (hs : List Lg), k = gs.length - i ∧ i ≤ gs.length ∧ SameG gs hs ∧ Wrt mark i hs ∧ hs.map (fun g => (g.t.length, g.d.length)) = gs.map (fun g => (g.t.length, g.d.length)) ∧ L' = [(0, sl ob 0 gs.length c), (1, U8 mark), (4, .int .i64 (i : Int))] ∧
  M' = (ob, blk (lgC gs ++ r) 63) :: (lgs 24 5 hs ++ N)) (k0 := gs.length) ⟨0, gs, rfl, by omega, ⟨rfl, rfl, hok⟩, (fun k g _ h => by omega), rfl, rfl, rfl⟩ ⟨rfl, rfl, rfl, trivial⟩ (fun w m => m) ?_
 rintro k L' M' ⟨i, hs, rfl, hi, hS, hW, hln, rfl, rfl⟩
 (refine CW.seq ?_; refine CW.seq ?_)
 refine CW.region (OW.rv (RV.move rfl) rfl (OW.rv (RV.move rfl) rfl (OW.rv (RV.len rfl rfl) rfl (OW.rv (RV.lss rfl rfl) rfl (OW.nil (QW.then_n ?_))))))
 refine CW.cond_p rfl (fun hlt2 => ?_) (fun hlt2 => ?_)
 ·have h1 : i < gs.length := by omega
  have h1h : i < hs.length := by rw [hS.n]; exact h1
  have hx : hs[i]? = some hs[i] := List.getElem?_eq_getElem h1h
  have gok := hS.ok _ (List.getElem_mem h1h)
  generalize hgx : hs[i] = g at hx gok
  have hot := gok.t
  have hod := gok.d
  have hmt := hot.mx
  have hmd := hod.mx
  have hsome : ob.isSome = true := ho.isSome (by decide) h1
  have hcell : ∀ j u, g.cells[j]? = some u → (lgC gs ++ r)[0 + i * 22 + j]? = some u := fun j u hu => by
   have h2 := lgC_at hx j u hu
   rw [hS.c] at h2
   rw [Nat.zero_add, List.getElem?_append_left (List.getElem?_eq_some_iff.1 h2).1]
   exact h2
  have ct : (lgC gs ++ r)[0 + i * 22 + 20]? = some (sl g.tb 0 g.t.length g.tc) := hcell 20 _ (LogC.C_topics _)
  have cd : (lgC gs ++ r)[0 + i * 22 + 21]? = some (sl g.db 0 g.d.length g.dc) := hcell 21 _ (LogC.C_data _)
  (refine CW.skip ?_; refine QW.then_n ?_; refine CW.seq ?_; refine CW.block ?_; refine CW.seq ?_; refine CW.seq ?_)
  refine CW.mem (fun w m => Mem.outG hx m) (CW.region (OW.rv (RV.assign rfl) rfl (OW.nil ?_)))
  (refine QW.then_n ?_; refine CW.block ?_)
  refine CW.loopJ (fun k L' M' => ∃ (j : Nat) (t : List (Vector (BitVec 8) 32)), k = g.t.length - j ∧ j ≤ g.t.length ∧ t.length = g.t.length ∧ (∀ (q : Nat) x, t[q]? = some x → q < j → x = wh mark i) ∧ L' = [(0, sl ob 0 gs.length c), (1, U8 mark), (4, .int .i64 (i : Int)), (5, .int .i64 (j : Int))] ∧
   M' = (g.tb, blk (hs32 t ++ g.tr) 24) :: (g.db, blk (u8s g.d ++ g.dr) 5) :: (ob, blk (lgC gs ++ r) 63) :: (lgs 24 5 (hs.eraseIdx i) ++ N)) (k0 := g.t.length) ⟨0, g.t, rfl, by omega, rfl, (fun q x _ h => by omega), rfl, rfl⟩ ⟨rfl, rfl, rfl, rfl, trivial⟩ (fun w m => m) ?_
  rintro k L' M' ⟨j, t, rfl, hj, htl, htw, rfl, rfl⟩
  (refine CW.seq ?_; refine CW.seq ?_)
  refine CW.region (OW.rv (RV.move rfl) rfl (OW.rv (RV.move rfl) rfl (OW.rv (RV.move rfl) rfl (OW.rv (RV.idx_os (i) rfl rfl rfl rfl rfl hsome (by omega)) rfl (OW.rv (RV.field rfl rfl rfl rfl) rfl (OW.rv (RV.load rfl (List.Mem.tail _ (List.Mem.tail _ (List.Mem.head _))) hsome rfl rfl ct) rfl (OW.rv (RV.len rfl rfl) rfl ?_)))))))
  refine OW.rv (RV.lss rfl rfl) rfl (OW.nil (QW.then_n ?_))
  refine CW.cond_p rfl (fun hjt => ?_) (fun hjt => ?_)
  ·have h2 : j < g.t.length := by omega
   have h3 : j < t.length := by omega
   have hts : g.tb.isSome = true := hot.isSome (by decide) h2
   (refine CW.skip ?_; refine QW.then_n ?_; refine CW.seq ?_; refine CW.block ?_)
   refine CW.region (OW.rv (RV.move rfl) rfl (OW.rv (RV.move rfl) rfl (OW.rv (RV.idx_os (i) rfl rfl rfl rfl rfl hsome (by omega)) rfl (OW.rv (RV.field rfl rfl rfl rfl) rfl (OW.rv (RV.load rfl (List.Mem.tail _ (List.Mem.tail _ (List.Mem.head _))) hsome rfl rfl ct) rfl (OW.rv (RV.move rfl) rfl (OW.rv (RV.move rfl) rfl ?_)))))))
   refine OW.rv (RV.move rfl) rfl ?_
   refine OW.rv (RV.conv_i8 rfl rfl rfl) rfl ?_; refine OW.slot (U8 (BitVec.ofNat 8 i)) (congrArg U8 (BitVec.ofInt_natCast ..)) ?_
   refine OW.rv (RV.move rfl) rfl ?_
   refine OW.rv (RV.quo rfl rfl (by omega) (by omega) (by omega)) rfl ?_; refine OW.slot (.int .i64 ((i / 256 : Nat) : Int)) rfl ?_
   refine OW.rv (RV.conv_i8 rfl rfl rfl) rfl ?_; refine OW.slot (U8 (BitVec.ofNat 8 (i / 256))) (congrArg U8 (BitVec.ofInt_natCast ..)) ?_
   refine OW.rv (RV.buildA (l := (u8s (Vector.replicate 32 0#8).toList)) (cs := u8s (wh mark i).toList) rfl rfl rfl (by rw [Vector.toList_replicate, ← u8s_rep']; rfl) rfl rfl (by simp only [wh, setL, List.foldl, ← vset, Vector.toList_replicate, ← u8s_set'] <;> rfl)) rfl ?_
   refine OW.rv (RV.idx_os (j) rfl rfl rfl rfl rfl hts (by omega)) rfl ?_
   refine OW.sv (SV.storeAs rfl hts rfl (u8s_one _) rfl ((u8s_length _).trans Vector.length_toList) (by show 0 + j * 32 + 32 ≤ _; rw [List.length_append, hs32_length]; omega)) ?_; refine OW.cells (hs32 (t.set j (wh mark i)) ++ g.tr) (hs32_set h3 _ _) ?_
   refine OW.nil ?_
   (refine QW.block_n ?_; refine QW.then_n ?_)
   refine CW.region (OW.rv (RV.move rfl) rfl (OW.rv (RV.add rfl rfl (by omega)) rfl (OW.rv (RV.assign rfl) rfl (OW.nil ?_))))
   refine QW.againJ (k' := g.t.length - (j + 1)) (by omega) ⟨j + 1, t.set j (wh mark i), rfl, by omega, by rw [List.length_set]; exact htl, ?_, rfl, rfl⟩ ⟨rfl, rfl, rfl, rfl, trivial⟩ (fun w m => m)
   intro q x hq hqj
   rcases setG_at hq with ⟨_, e⟩ | ⟨hne, hq⟩
   ·exact e
   ·exact htw q x hq (by omega)
  ·have hje : j = g.t.length := by omega
   subst hje
   refine CW.mem (M' := (g.db, blk (u8s g.d ++ g.dr) 5) :: (g.tb, blk (hs32 t ++ g.tr) 24) :: (ob, blk (lgC gs ++ r) 63) :: (lgs 24 5 (hs.eraseIdx i) ++ N)) (fun w m => m.pick [1, 0] 2 rfl rfl) ?_
   (refine CW.exit ?_; refine QW.then_x ?_; refine QW.then_x ?_; refine QW.block_xe ?_; refine QW.then_n ?_; refine CW.seq ?_)
   refine CW.region (OW.rv (RV.assign rfl) rfl (OW.nil ?_))
   (refine QW.then_n ?_; refine CW.block ?_)
   refine CW.loopJ (fun k L' M' => ∃ (j : Nat) (b : List (BitVec 8)), k = g.d.length - j ∧ j ≤ g.d.length ∧ b.length = g.d.length ∧ (∀ (q : Nat) x, b[q]? = some x → q < j → x = wd mark i) ∧ L' = [(0, sl ob 0 gs.length c), (1, U8 mark), (4, .int .i64 (i : Int)), (6, .int .i64 (j : Int))] ∧
    M' = (g.db, blk (u8s b ++ g.dr) 5) :: (g.tb, blk (hs32 t ++ g.tr) 24) :: (ob, blk (lgC gs ++ r) 63) :: (lgs 24 5 (hs.eraseIdx i) ++ N)) (k0 := g.d.length) ⟨0, g.d, rfl, by omega, rfl, (fun q x _ h => by omega), rfl, rfl⟩ ⟨rfl, rfl, rfl, rfl, trivial⟩ (fun w m => m) ?_
   rintro k L' M' ⟨j, b, rfl, hj, hbl, hbw, rfl, rfl⟩
   (refine CW.seq ?_; refine CW.seq ?_)
   refine CW.region (OW.rv (RV.move rfl) rfl (OW.rv (RV.move rfl) rfl (OW.rv (RV.move rfl) rfl (OW.rv (RV.idx_os (i) rfl rfl rfl rfl rfl hsome (by omega)) rfl (OW.rv (RV.field rfl rfl rfl rfl) rfl (OW.rv (RV.load rfl (List.Mem.tail _ (List.Mem.tail _ (List.Mem.head _))) hsome rfl rfl cd) rfl (OW.rv (RV.len rfl rfl) rfl ?_)))))))
   refine OW.rv (RV.lss rfl rfl) rfl (OW.nil (QW.then_n ?_))
   refine CW.cond_p rfl (fun hjd => ?_) (fun hjd => ?_)
   ·have h2 : j < g.d.length := by omega
    have h3 : j < b.length := by omega
    have hds : g.db.isSome = true := hod.isSome (by decide) h2
    (refine CW.skip ?_; refine QW.then_n ?_; refine CW.seq ?_; refine CW.block ?_)
    refine CW.region (OW.rv (RV.move rfl) rfl (OW.rv (RV.move rfl) rfl (OW.rv (RV.idx_os (i) rfl rfl rfl rfl rfl hsome (by omega)) rfl (OW.rv (RV.field rfl rfl rfl rfl) rfl (OW.rv (RV.load rfl (List.Mem.tail _ (List.Mem.tail _ (List.Mem.head _))) hsome rfl rfl cd) rfl (OW.rv (RV.move rfl) rfl (OW.rv (RV.move rfl) rfl ?_)))))))
    refine OW.rv (RV.move rfl) rfl ?_
    refine OW.rv (RV.rem rfl rfl (by omega) (by omega)) rfl ?_; refine OW.slot (.int .i64 ((i % 8 : Nat) : Int)) rfl ?_
    refine OW.rv (RV.conv_i8 rfl rfl rfl) rfl ?_; refine OW.slot (U8 (BitVec.ofNat 8 (i % 8))) (congrArg U8 (BitVec.ofInt_natCast ..)) ?_
    refine OW.rv (RV.add8 rfl rfl rfl rfl) rfl (OW.rv (RV.idx_o (j) rfl rfl rfl rfl rfl hds (by omega)) rfl ?_)
    refine OW.sv (SV.store rfl hds rfl rfl rfl (by rw [List.length_append, u8s_length]; omega)) ?_; refine OW.cells (u8s (b.set j (wd mark i)) ++ g.dr) (by rw [Nat.zero_add, List.set_append_left _ _ (by rw [u8s_length]; omega)]; exact congrArg (fun l => l ++ g.dr) (u8s_set' ..)) ?_
    refine OW.nil ?_
    (refine QW.block_n ?_; refine QW.then_n ?_)
    refine CW.region (OW.rv (RV.move rfl) rfl (OW.rv (RV.add rfl rfl (by omega)) rfl (OW.rv (RV.assign rfl) rfl (OW.nil ?_))))
    refine QW.againJ (k' := g.d.length - (j + 1)) (by omega) ⟨j + 1, b.set j (wd mark i), rfl, by omega, by rw [List.length_set]; exact hbl, ?_, rfl, rfl⟩ ⟨rfl, rfl, rfl, rfl, trivial⟩ (fun w m => m)
    intro q x hq hqj
    rcases setG_at hq with ⟨_, e⟩ | ⟨hne, hq⟩
    ·exact e
    ·exact hbw q x hq (by omega)
   ·have hje : j = g.d.length := by omega
    subst hje
    (refine CW.exit ?_; refine QW.then_x ?_; refine QW.then_x ?_; refine QW.block_xe ?_; refine QW.block_n ?_; refine QW.then_n ?_)
    refine CW.region (OW.rv (RV.move rfl) rfl (OW.rv (RV.add rfl rfl (by omega)) rfl (OW.rv (RV.assign rfl) rfl (OW.nil ?_))))
    generalize hgn : ({ g with t := t, d := b } : Lg) = g2
    have gcells : g2.cells = g.cells := by rw [← hgn]; unfold Lg.cells Lg.cell; dsimp only; rw [htl, hbl]
    have gok2 : g2.Ok := by
     rw [← hgn]
     refine ⟨⟨hs32_length _, ?_, hot.hn, ?_⟩, ⟨?_, ?_, hod.hn, ?_⟩⟩
     ·have := hot.hr; rw [List.length_append, hs32_length] at this ⊢; dsimp only; rw [htl]; exact this
     ·dsimp only; omega
     ·dsimp only; rw [u8s_length]; omega
     ·have := hod.hr; rw [List.length_append, u8s_length] at this ⊢; dsimp only; rw [hbl]; exact this
     ·dsimp only; omega
    refine QW.againJ (k' := gs.length - (i + 1)) (by omega) ⟨i + 1, hs.set i g2, rfl, by omega, ⟨by rw [lgC_set gcells hx]; exact hS.c, by rw [List.length_set]; exact hS.n, ?_⟩, ?_, ?_, rfl, rfl⟩ ⟨rfl, rfl, rfl, trivial⟩ (fun w m => ?_)
    ·intro x hx2
     rcases List.mem_or_eq_of_mem_set hx2 with h | rfl
     ·exact hS.ok _ h
     ·exact gok2
    ·intro q x hq hqi
     rcases setG_at hq with ⟨hiq, hxe⟩ | ⟨hne, hq⟩
     ·subst hiq
      subst hxe
      rw [← hgn]
      refine ⟨fun x hx => ?_, fun y hy => ?_⟩
      ·obtain ⟨z, hz⟩ := List.getElem?_of_mem hx
       exact htw z x hz (by have := (List.getElem?_eq_some_iff.1 hz).1; dsimp only at this; omega)
      ·obtain ⟨z, hz⟩ := List.getElem?_of_mem hy
       exact hbw z y hz (by have := (List.getElem?_eq_some_iff.1 hz).1; dsimp only at this; omega)
     ·exact hW q x hq (by omega)
    ·rw [List.map_set, ← hgn]
     dsimp only
     rw [htl, hbl, ← hln]
     apply List.ext_getElem?
     intro q
     rw [List.getElem?_set]
     split
     ·rename_i hiq
      subst hiq
      rw [List.length_map, if_pos h1h, List.getElem?_map, hx]; rfl
     ·rfl
    ·refine Mem.inG h1h ?_
     rw [← hgn]
     exact m.pick [1, 0, 2] 3 rfl rfl
 ·have hie : i = gs.length := by omega
  subst hie
  (refine CW.exit ?_; refine QW.then_x ?_; refine QW.then_x ?_; refine QW.block_xe ?_)
  refine QW.retG (rs := []) [] ((ob, blk (lgC hs ++ r) 63) :: lgs 24 5 hs) rfl trivial rfl ⟨hs, hS, by rw [hS.n]; exact hW, hln, rfl, rfl⟩ (fun w m => by rw [hS.c]; exact m) _ (.inr rfl)
theorem waybilllaw17_grown_does (w0 : World) (N : List Ent) (ob : Option Nat) (c : Nat) (r : List Value) (gs : List Lg) (mark : BitVec 8) (hok : ∀ g ∈ gs, g.Ok) (ho : OwnS ob gs.length c 22 (lgC gs) r) (hfit : ∀ g ∈ gs, (g.t.length + 101) * 32 ≤ 140737488355328 ∧ g.d.length + 100 ≤ 140737488355328) :
  DoesG Tryd.prog 55 [sl ob 0 gs.length c, U8 mark] w0 ((ob, blk (lgC gs ++ r) 63) :: lgs 24 5 gs) N (fun v G => ∃ hs : List Lg, SameG gs hs ∧ hs.map Lg.val = gs.map Lg.val ∧ v = .bool true ∧ G = (ob, blk (lgC hs ++ r) 63) :: lgs 24 5 hs) := by
 have hm := ho.mx
 refine DoesG.enter Tryd.func55 rfl Tryd.ntmps55 rfl (M := (ob, blk (lgC gs ++ r) 63) :: (lgs 24 5 gs ++ N)) rfl (CW.seq (CW.region (OW.rv (RV.assign rfl) rfl (OW.nil ?_))))
 (refine QW.then_n ?_; refine CW.seq ?_; refine CW.seq ?_)
 refine CW.region (OW.rv (RV.assign rfl) rfl (OW.nil ?_))
 (refine QW.then_n ?_; refine CW.block ?_)
 refine CW.loopJ (fun k L' M' => ∃ (i : Nat) (hs : List Lg), k = gs.length - i ∧ i ≤ gs.length ∧ SameG gs hs ∧ hs.map Lg.val = gs.map Lg.val ∧ L' = [(0, sl ob 0 gs.length c), (1, U8 mark), (5, .int .i64 (i : Int))] ∧
  M' = (ob, blk (lgC gs ++ r) 63) :: (lgs 24 5 hs ++ N)) (k0 := gs.length) ⟨0, gs, rfl, by omega, ⟨rfl, rfl, hok⟩, rfl, rfl, rfl⟩ ⟨rfl, rfl, rfl, trivial⟩ (fun w m => m) ?_
 rintro k L' M' ⟨i, hs, rfl, hi, hS, hln, rfl, rfl⟩
 (refine CW.seq ?_; refine CW.seq ?_)
 refine CW.region (OW.rv (RV.move rfl) rfl (OW.rv (RV.move rfl) rfl (OW.rv (RV.len rfl rfl) rfl (OW.rv (RV.lss rfl rfl) rfl (OW.nil (QW.then_n ?_))))))
 refine CW.cond_p rfl (fun hlt2 => ?_) (fun hlt2 => ?_)
 ·have h1 : i < gs.length := by omega
  have h1h : i < hs.length := by rw [hS.n]; exact h1
  have hx : hs[i]? = some hs[i] := List.getElem?_eq_getElem h1h
  have gok := hS.ok _ (List.getElem_mem h1h)
  have gfit : ((hs[i]).t.length + 101) * 32 ≤ 140737488355328 ∧ (hs[i]).d.length + 100 ≤ 140737488355328 := by
   have h2 : (hs.map Lg.val)[i]? = (gs.map Lg.val)[i]? := by rw [hln]
   rw [List.getElem?_map, List.getElem?_map, hx, List.getElem?_eq_getElem h1] at h2
   have h3 := Option.some.inj h2
   have h4 := hfit _ (List.getElem_mem h1)
   have h5 : (hs[i]).t = (gs[i]).t := congrArg Log.topics h3
   have h6 : (hs[i]).d = (gs[i]).d := congrArg Log.data h3
   rw [h5, h6]; exact h4
  generalize hgx : hs[i] = g at hx gok gfit
  obtain ⟨gf1, gf2⟩ := gfit
  have hot := gok.t
  have hod := gok.d
  have hmt := hot.mx
  have hmd := hod.mx
  have hsome : ob.isSome = true := ho.isSome (by decide) h1
  have hcell : ∀ j u, g.cells[j]? = some u → (lgC gs ++ r)[0 + i * 22 + j]? = some u := fun j u hu => by
   have h2 := lgC_at hx j u hu
   rw [hS.c] at h2
   rw [Nat.zero_add, List.getElem?_append_left (List.getElem?_eq_some_iff.1 h2).1]
   exact h2
  have ct : (lgC gs ++ r)[0 + i * 22 + 20]? = some (sl g.tb 0 g.t.length g.tc) := hcell 20 _ (LogC.C_topics _)
  have cd : (lgC gs ++ r)[0 + i * 22 + 21]? = some (sl g.db 0 g.d.length g.dc) := hcell 21 _ (LogC.C_data _)
  (refine CW.skip ?_; refine QW.then_n ?_; refine CW.seq ?_; refine CW.block ?_; refine CW.seq ?_)
  refine CW.mem (fun w m => Mem.outG hx m) (CW.region (OW.rv (RV.move rfl) rfl (OW.rv (RV.move rfl) rfl (OW.rv (RV.idx_os (i) rfl rfl rfl rfl rfl hsome (by omega)) rfl (OW.rv (RV.field rfl rfl rfl rfl) rfl (OW.rv (RV.load rfl (List.Mem.tail _ (List.Mem.tail _ (List.Mem.head _))) hsome rfl rfl ct) rfl (OW.rv (RV.move rfl) rfl ?_)))))))
  refine OW.rv (RV.add8 rfl rfl rfl (lit8 _ rfl)) rfl ?_
  refine OW.rv (RV.buildA (l := (u8s (Vector.replicate 32 0#8).toList)) (cs := u8s (gh mark 1#8).toList) rfl rfl rfl (by rw [Vector.toList_replicate, ← u8s_rep']; rfl) rfl rfl (by simp only [gh, setL, List.foldl, ← vset, Vector.toList_replicate, ← u8s_set'] <;> rfl)) rfl ?_
  refine OW.rv (RV.move rfl) rfl (OW.rv (RV.add8 rfl rfl rfl (lit8 _ rfl)) rfl ?_)
  refine OW.rv (RV.buildA (l := (u8s (Vector.replicate 32 0#8).toList)) (cs := u8s (gh mark 2#8).toList) rfl rfl rfl (by rw [Vector.toList_replicate, ← u8s_rep']; rfl) rfl rfl (by simp only [gh, setL, List.foldl, ← vset, Vector.toList_replicate, ← u8s_set'] <;> rfl)) rfl ?_
  refine OW.ofN (NV.bsA rfl rfl (by intro x hx; simp at hx; rcases hx with rfl | rfl <;> exact (u8s_length _).trans Vector.length_toList) rfl rfl rfl (by decide) (by decide) rfl) rfl (fun bs => ?_)
  refine OW.rot1 ?_; refine OW.appendGw (X := []) (s := 32) (vs := u8s (gh mark 1#8).toList ++ u8s (gh mark 2#8).toList) (m := 2) (Grw.start g.tb (hs32 g.t) g.tr 24) hot rfl rfl rfl rfl rfl rfl (fun w m => m.rd0 (List.Mem.tail _ (List.Mem.head _)) (fun e => nomatch e)) (by rfl) (by intro u hu; rcases List.mem_append.1 hu with hu | hu <;> exact u8s_one _ u hu) (fun e => nomatch e) (by decide) (by decide) (by decide) (by simp only [i24]; omega) rfl rfl (g.t.length + 2) (hs32 (g.t ++ [gh mark 1#8, gh mark 2#8])) rfl (by rw [hs32_app]; rfl) (fun obt rt ct1 XT GT oT => ?_); refine OW.mem (fun w m => Mem.dropX m) ?_
  refine OW.rv (RV.assign rfl) rfl (OW.nil ?_)
  (refine QW.then_n ?_; refine CW.seq ?_)
  refine CW.mem (M' := (g.db, blk (u8s g.d ++ g.dr) 5) :: (obt, blk (hs32 (g.t ++ [gh mark 1#8, gh mark 2#8]) ++ rt) 24) :: (XT ++ ((ob, blk (lgC gs ++ r) 63) :: (lgs 24 5 (hs.eraseIdx i) ++ N)))) (fun w m => Mem.swapX (Y := []) m) (CW.region (OW.rv (RV.move rfl) rfl (OW.rv (RV.move rfl) rfl (OW.rv (RV.idx_os (i) rfl rfl rfl rfl rfl hsome (by omega)) rfl (OW.rv (RV.field rfl rfl rfl rfl) rfl (OW.rv (RV.load rfl (List.Mem.tail _ (List.Mem.tail _ (List.mem_append_right _ (List.Mem.head _)))) hsome rfl rfl cd) rfl (OW.rv (RV.move rfl) rfl ?_)))))))
  refine OW.rv (RV.add8 rfl rfl rfl (lit8 _ rfl)) rfl (OW.ofN (NV.bs1 (v := U8 (mark + 9#8)) rfl rfl rfl rfl rfl rfl) rfl (fun bs => ?_))
  refine OW.rot1 ?_; refine OW.appendGw (X := []) (s := 1) (vs := [U8 (mark + 9#8)]) (m := 1) (Grw.start g.db (u8s g.d) g.dr 5) hod rfl rfl rfl rfl rfl rfl (fun w m => m.rd0 (List.Mem.tail _ (List.Mem.head _)) (fun e => nomatch e)) (by rfl) (by intro u hu; simp at hu; subst hu; rfl) (fun e => nomatch e) (by decide) (by decide) (by decide) (by simp only [i5]; omega) rfl rfl (g.d.length + 1) (u8s (g.d ++ [mark + 9#8])) rfl (by rw [← u8s_app]; rfl) (fun obd rd cd1 XD GD oD => ?_); refine OW.mem (fun w m => Mem.dropX m) ?_
  refine OW.rv (RV.assign rfl) rfl (OW.nil ?_)
  (refine QW.then_n ?_; refine CW.seq ?_; refine CW.seq ?_)
  refine CW.region (OW.rv (RV.assign rfl) rfl (OW.nil ?_))
  (refine QW.then_n ?_; refine CW.block ?_)
  refine CW.loopJ (fun k L' M' => ∃ (j : Nat) (et : List (Vector (BitVec 8) 32)) (ed : List (BitVec 8)) (obt obd : Option Nat) (rt rd : List Value) (ct1 cd1 : Nat) (XT XD : List Ent), k = 99 - j ∧ j ≤ 99 ∧ et.length = 2 + j ∧ ed.length = 1 + j ∧
   Grw g.tb (hs32 g.t) g.tr.length 24 obt (hs32 (g.t ++ et)) rt XT ∧ OwnS obt (g.t ++ et).length ct1 32 (hs32 (g.t ++ et)) rt ∧ Grw g.db (u8s g.d) g.dr.length 5 obd (u8s (g.d ++ ed)) rd XD ∧ OwnS obd (g.d ++ ed).length cd1 1 (u8s (g.d ++ ed)) rd ∧
   L' = [(0, sl ob 0 gs.length c), (1, U8 mark), (5, .int .i64 (i : Int)), (6, sl obt 0 (g.t ++ et).length ct1), (7, sl obd 0 (g.d ++ ed).length cd1), (8, .int .i64 (j : Int))] ∧
   M' = (obd, blk (u8s (g.d ++ ed) ++ rd) 5) :: (XD ++ ((obt, blk (hs32 (g.t ++ et) ++ rt) 24) :: (XT ++ ((ob, blk (lgC gs ++ r) 63) :: (lgs 24 5 (hs.eraseIdx i) ++ N)))))) (k0 := 99)
   ⟨0, [gh mark 1#8, gh mark 2#8], [mark + 9#8], obt, obd, rt, rd, ct1, cd1, XT, XD, rfl, by omega, rfl, rfl, GT, by rw [List.length_append]; exact oT, GD, by rw [List.length_append]; exact oD, rfl, rfl⟩ ⟨rfl, rfl, rfl, congrArg (fun k => some (sl obt 0 k ct1)) (by rw [List.length_append]; rfl), congrArg (fun k => some (sl obd 0 k cd1)) (by rw [List.length_append]; rfl), rfl, trivial⟩ (fun w m => m) ?_
  clear GT oT GD oD
  clear XT XD rt rd ct1 cd1 obt obd
  rintro k L' M' ⟨j, et, ed, obt, obd, rt, rd, ct1, cd1, XT, XD, rfl, hj, het, hed, GT, oT, GD, oD, rfl, rfl⟩
  have hlt : (g.t ++ et).length = g.t.length + 2 + j := by rw [List.length_append]; omega
  have hld : (g.d ++ ed).length = g.d.length + 1 + j := by rw [List.length_append]; omega
  have hmT := oT.mx
  have hmD := oD.mx
  (refine CW.seq ?_; refine CW.seq ?_)
  refine CW.region (OW.rv (RV.move rfl) rfl (OW.rv (RV.lss rfl rfl) rfl (OW.nil (QW.then_n ?_))))
  refine CW.cond_p rfl (fun hjt => ?_) (fun hjt => ?_)
  ·(refine CW.skip ?_; refine QW.then_n ?_; refine CW.seq ?_; refine CW.block ?_; refine CW.seq ?_)
   refine CW.mem (fun w m => Mem.swapX m) (CW.region (OW.rv (RV.move rfl) rfl (OW.rv (RV.move rfl) rfl (OW.rv (RV.add8 rfl rfl rfl (lit8 _ rfl)) rfl ?_))))
   refine OW.rv (RV.buildA (l := (u8s (Vector.replicate 32 0#8).toList)) (cs := u8s (gh mark 3#8).toList) rfl rfl rfl (by rw [Vector.toList_replicate, ← u8s_rep']; rfl) rfl rfl (by simp only [gh, setL, List.foldl, ← vset, Vector.toList_replicate, ← u8s_set'] <;> rfl)) rfl ?_
   refine OW.ofN (NV.bsA rfl rfl (by intro x hx; simp at hx; subst hx; exact (u8s_length _).trans Vector.length_toList) rfl rfl rfl (by decide) (by decide) rfl) rfl (fun bs => ?_)
   refine OW.mem (fun w m => Mem.moveX m) ?_; refine OW.appendGw (s := 32) (vs := u8s (gh mark 3#8).toList) (m := 1) GT oT rfl rfl rfl rfl rfl rfl (fun w m => m.rd0 (List.Mem.tail _ (List.mem_append_right _ (List.Mem.head _))) (fun e => nomatch e)) ((u8s_length _).trans Vector.length_toList) (u8s_one _) (fun e => nomatch e) (by decide) (by decide) (by decide) (by simp only [i24]; omega) rfl rfl ((g.t ++ et).length + 1) (hs32 (g.t ++ (et ++ [gh mark 3#8]))) rfl (by rw [show g.t ++ (et ++ [gh mark 3#8]) = (g.t ++ et) ++ [gh mark 3#8] from (List.append_assoc ..).symm, hs32_app (g.t ++ et)]; exact congrArg (hs32 (g.t ++ et) ++ ·) (List.append_nil _).symm) (fun obt2 rt2 ct2 XT2 GT2 oT2 => ?_); refine OW.mem (fun w m => Mem.dropX m) ?_
   refine OW.rv (RV.assign rfl) rfl (OW.nil (QW.then_n (CW.mem (fun w m => Mem.swapX m) (CW.region (OW.rv (RV.move rfl) rfl (OW.rv (RV.move rfl) rfl (OW.rv (RV.add8 rfl rfl rfl (lit8 _ rfl)) rfl (OW.ofN (NV.bs1 (v := U8 (mark + 9#8)) rfl rfl rfl rfl rfl rfl) rfl (fun bs2 => ?_)))))))))
   refine OW.mem (fun w m => Mem.moveX m) ?_; refine OW.appendGw (s := 1) (vs := [U8 (mark + 9#8)]) (m := 1) GD oD rfl rfl rfl rfl rfl rfl (fun w m => m.rd0 (List.Mem.tail _ (List.mem_append_right _ (List.Mem.head _))) (fun e => nomatch e)) rfl (by intro u hu; simp at hu; subst hu; rfl) (fun e => nomatch e) (by decide) (by decide) (by decide) (by simp only [i5]; omega) rfl rfl ((g.d ++ ed).length + 1) (u8s (g.d ++ (ed ++ [mark + 9#8]))) rfl (show u8s (g.d ++ ed) ++ u8s [mark + 9#8] = _ by rw [u8s_app, List.append_assoc]) (fun obd2 rd2 cd2 XD2 GD2 oD2 => ?_); refine OW.mem (fun w m => Mem.dropX m) ?_
   refine OW.rv (RV.assign rfl) rfl (OW.nil ?_)
   (refine QW.block_n ?_; refine QW.then_n ?_)
   refine CW.region (OW.rv (RV.move rfl) rfl (OW.rv (RV.add rfl rfl (by omega)) rfl (OW.rv (RV.assign rfl) rfl (OW.nil ?_))))
   have hl1 : (g.t ++ (et ++ [gh mark 3#8])).length = (g.t ++ et).length + 1 := by rw [← List.append_assoc, List.length_append, List.length_singleton]
   have hl2 : (g.d ++ (ed ++ [mark + 9#8])).length = (g.d ++ ed).length + 1 := by rw [← List.append_assoc, List.length_append, List.length_singleton]
   refine QW.againJ (k' := 99 - (j + 1)) (by omega) ⟨j + 1, et ++ [gh mark 3#8], ed ++ [mark + 9#8], obt2, obd2, rt2, rd2, ct2, cd2, XT2, XD2, rfl, by omega, by rw [List.length_append, List.length_singleton]; omega, by rw [List.length_append, List.length_singleton]; omega, GT2, by rw [hl1]; exact oT2, GD2, by rw [hl2]; exact oD2, rfl, rfl⟩ ⟨rfl, rfl, rfl, congrArg (fun k => some (sl obt2 0 k ct2)) hl1.symm, congrArg (fun k => some (sl obd2 0 k cd2)) hl2.symm, rfl, trivial⟩ (fun w m => m)
  ·have hje : j = 99 := by omega
   subst hje
   (refine CW.exit ?_; refine QW.then_x ?_; refine QW.then_x ?_; refine QW.block_xe ?_; refine QW.then_n ?_; refine CW.seq ?_)
   refine CW.region (OW.rv (RV.move rfl) rfl (OW.rv (RV.len rfl rfl) rfl (OW.rv (RV.move rfl) rfl (OW.rv (RV.move rfl) rfl (OW.rv (RV.idx_os (i) rfl rfl rfl rfl rfl hsome (by omega)) rfl (OW.rv (RV.field rfl rfl rfl rfl) rfl (OW.rv (RV.load rfl (List.Mem.tail _ (List.mem_append_right _ (List.Mem.tail _ (List.mem_append_right _ (List.Mem.head _))))) hsome rfl rfl ct) rfl ?_)))))))
   refine OW.rv (RV.len rfl rfl) rfl (OW.rv (RV.add rfl rfl (by omega)) rfl (OW.rv (RV.neq_f rfl rfl (by omega)) rfl (OW.rv (RV.move rfl) rfl ?_)))
   refine OW.want rfl ?_; refine OW.rv (RV.move rfl) rfl ?_
   refine OW.want rfl ?_; refine OW.rv (RV.len rfl rfl) rfl ?_
   refine OW.want rfl ?_; refine OW.rv (RV.move rfl) rfl ?_
   refine OW.want rfl ?_; refine OW.rv (RV.move rfl) rfl ?_
   refine OW.want rfl ?_; refine OW.rv (RV.idx_os (i) rfl rfl rfl rfl rfl hsome (by omega)) rfl ?_
   refine OW.want rfl ?_; refine OW.rv (RV.field rfl rfl rfl rfl) rfl ?_
   refine OW.want rfl ?_; refine OW.rv (RV.load rfl (List.Mem.tail _ (List.mem_append_right _ (List.Mem.tail _ (List.mem_append_right _ (List.Mem.head _))))) hsome rfl rfl cd) rfl ?_
   refine OW.want rfl ?_; refine OW.rv (RV.len rfl rfl) rfl ?_
   refine OW.want rfl ?_; refine OW.rv (RV.add rfl rfl (by omega)) rfl ?_
   refine OW.want rfl ?_; refine OW.rv (RV.neq_f rfl rfl (by omega)) rfl ?_
   refine OW.rv (RV.pick_f rfl rfl rfl) rfl (OW.nil (QW.then_n (CW.cond_f rfl ?_)))
   (refine CW.skip ?_; refine QW.block_n ?_; refine QW.then_n ?_)
   refine CW.region (OW.rv (RV.move rfl) rfl (OW.rv (RV.add rfl rfl (by omega)) rfl (OW.rv (RV.assign rfl) rfl (OW.nil ?_))))
   obtain ⟨tr2, htr2, hT2⟩ := GT.fin
   obtain ⟨dr2, hdr2, hD2⟩ := GD.fin
   generalize hgn : ({ g with tr := tr2, dr := dr2 } : Lg) = g2
   have gcells : g2.cells = g.cells := by rw [← hgn]; rfl
   have gok2 : g2.Ok := by
    rw [← hgn]
    refine ⟨⟨hot.n, ?_, hot.hn, hot.mx⟩, ⟨hod.n, ?_, hod.hn, hod.mx⟩⟩
    ·have := hot.hr; rw [List.length_append] at this ⊢; dsimp only; omega
    ·have := hod.hr; rw [List.length_append] at this ⊢; dsimp only; omega
   refine QW.againJ (k' := gs.length - (i + 1)) (by omega) ⟨i + 1, hs.set i g2, rfl, by omega, ⟨by rw [lgC_set gcells hx]; exact hS.c, by rw [List.length_set]; exact hS.n, ?_⟩, ?_, rfl, rfl⟩ ⟨rfl, rfl, rfl, trivial⟩ (fun w m => ?_)
   ·intro x hx2
    rcases List.mem_or_eq_of_mem_set hx2 with h | rfl
    ·exact hS.ok _ h
    ·exact gok2
   ·rw [List.map_set, ← hgn, ← hln]
    apply List.ext_getElem?
    intro q
    rw [List.getElem?_set]
    split
    ·rename_i hiq
     subst hiq
     rw [List.length_map, if_pos h1h, List.getElem?_map, hx]; rfl
    ·rfl
   ·refine Mem.inG h1h ?_
    rw [← hgn]
    exact (hT2 _ _ _ (Mem.swapX (X := []) (hD2 _ _ _ m)))
 ·have hie : i = gs.length := by omega
  subst hie
  (refine CW.exit ?_; refine QW.then_x ?_; refine QW.then_x ?_; refine QW.block_xe ?_; refine QW.then_n ?_; refine CW.seq ?_)
  refine CW.region (OW.rv (RV.assign rfl) rfl (OW.nil ?_))
  (refine QW.then_n ?_; refine CW.ret ?_)
  refine QW.retG (rs := [.tmp 4]) [.bool true] ((ob, blk (lgC hs ++ r) 63) :: lgs 24 5 hs) rfl ?_ rfl ⟨hs, hS, hln, rfl, rfl⟩ (fun w m => by rw [hS.c]; exact m) _ (.inl rfl)
  exact ⟨rfl, trivial⟩
theorem waybilllaw17_apart_does (w0 : World) (N : List Ent) (ob1 ob2 : Option Nat) (c1 c2 : Nat) (r1 r2 : List Value) (gs1 gs2 : List Lg) (hok1 : ∀ g ∈ gs1, g.Ok) (ho1 : OwnS ob1 gs1.length c1 22 (lgC gs1) r1) (hok2 : ∀ g ∈ gs2, g.Ok) (ho2 : OwnS ob2 gs2.length c2 22 (lgC gs2) r2)
  (hf1 : ∀ g ∈ gs1, (g.t.length + 101) * 32 ≤ 140737488355328 ∧ g.d.length + 100 ≤ 140737488355328) (hf2 : ∀ g ∈ gs2, (g.t.length + 101) * 32 ≤ 140737488355328 ∧ g.d.length + 100 ≤ 140737488355328) :
  DoesG Tryd.prog 30 [sl ob1 0 gs1.length c1, sl ob2 0 gs2.length c2] w0 (((ob1, blk (lgC gs1 ++ r1) 63) :: lgs 24 5 gs1) ++ ((ob2, blk (lgC gs2 ++ r2) 63) :: lgs 24 5 gs2)) N (fun v G => v = .bool true ∧ G = []) := by
 refine DoesG.enter Tryd.func30 rfl Tryd.ntmps30 rfl (M := ((ob1, blk (lgC gs1 ++ r1) 63) :: lgs 24 5 gs1) ++ (((ob2, blk (lgC gs2 ++ r2) 63) :: lgs 24 5 gs2) ++ N)) (by simp only [List.append_assoc]) (CW.seq (CW.region (OW.rv (RV.assign rfl) rfl (OW.nil ?_))))
 (refine QW.then_n ?_; refine CW.seq ?_)
 refine CW.region (OW.rv (RV.move rfl) rfl ?_)
 refine OW.callG Tryd.call54 rfl (waybilllaw17_written_does w0 (((ob2, blk (lgC gs2 ++ r2) 63) :: lgs 24 5 gs2) ++ N) ob1 c1 r1 gs1 50#8 hok1 ho1) rfl rfl ?_; rintro _ _ ⟨hs1, hS1, hW1, hl1, rfl, rfl⟩
 refine OW.nil ?_
 (refine QW.then_n ?_; refine CW.seq ?_)
 refine CW.mem (M' := ((ob2, blk (lgC gs2 ++ r2) 63) :: lgs 24 5 gs2) ++ (((ob1, blk (lgC hs1 ++ r1) 63) :: lgs 24 5 hs1) ++ N)) (fun w m => m.perm (List.perm_append_comm_assoc ..)) (CW.region (OW.rv (RV.move rfl) rfl ?_))
 refine OW.callG Tryd.call54 rfl (waybilllaw17_written_does w0 (((ob1, blk (lgC hs1 ++ r1) 63) :: lgs 24 5 hs1) ++ N) ob2 c2 r2 gs2 90#8 hok2 ho2) rfl rfl ?_; rintro _ _ ⟨hs2, hS2, hW2, hl2, rfl, rfl⟩
 refine OW.nil ?_
 (refine QW.then_n ?_; refine CW.seq ?_)
 have o1 := hS1.own ho1
 have o2 := hS2.own ho2
 rw [← hS1.n, ← hS2.n]
 refine CW.mem (M' := ((ob1, blk (lgC hs1 ++ r1) 63) :: lgs 24 5 hs1) ++ (((ob2, blk (lgC hs2 ++ r2) 63) :: lgs 24 5 hs2) ++ N)) (fun w m => m.perm (List.perm_append_comm_assoc ..)) (CW.region (OW.rv (RV.move rfl) rfl ?_))
 refine OW.callG Tryd.call55 rfl (waybilllaw17_grown_does w0 (((ob2, blk (lgC hs2 ++ r2) 63) :: lgs 24 5 hs2) ++ N) ob1 c1 r1 hs1 50#8 hS1.ok o1 (lens_fit hl1 hf1)) rfl rfl ?_; rintro _ _ ⟨ks1, kS1, kv1, rfl, rfl⟩
 refine OW.rv (RV.assign rfl) rfl (OW.nil ?_)
 (refine QW.then_n ?_; refine CW.seq ?_)
 refine CW.mem (M' := ((ob2, blk (lgC hs2 ++ r2) 63) :: lgs 24 5 hs2) ++ (((ob1, blk (lgC ks1 ++ r1) 63) :: lgs 24 5 ks1) ++ N)) (fun w m => m.perm (List.perm_append_comm_assoc ..)) (CW.region (OW.rv (RV.move rfl) rfl ?_))
 refine OW.callG Tryd.call55 rfl (waybilllaw17_grown_does w0 (((ob1, blk (lgC ks1 ++ r1) 63) :: lgs 24 5 ks1) ++ N) ob2 c2 r2 hs2 90#8 hS2.ok o2 (lens_fit hl2 hf2)) rfl rfl ?_; rintro _ _ ⟨ks2, kS2, kv2, rfl, rfl⟩
 refine OW.rv (RV.assign rfl) rfl (OW.nil ?_)
 (refine QW.then_n ?_; refine CW.seq ?_)
 have p1 := kS1.own o1
 have p2 := kS2.own o2
 rw [← kS1.n, ← kS2.n]
 generalize hM : (((ob2, blk (lgC ks2 ++ r2) 63) :: lgs 24 5 ks2) ++ (((ob1, blk (lgC ks1 ++ r1) 63) :: lgs 24 5 ks1) ++ N)) = M
 have v1 := p1.view (te := 63) (w0 := w0) (Ψ := fun w => Mem w0 w M) (by decide) (fun w q => by rw [← hM] at q; exact (q.appR.appL).sublist (List.singleton_sublist.2 (List.mem_cons_self ..)))
 have v2 := p2.view (te := 63) (w0 := w0) (Ψ := fun w => Mem w0 w M) (by decide) (fun w q => by rw [← hM] at q; exact (q.appL).sublist (List.singleton_sublist.2 (List.mem_cons_self ..)))
 have q1 := lgs_reps (w0 := w0) (Φ := fun w => Mem w0 w M) (tH := 24) (tB := 5) kS1.ok (fun w q => by rw [← hM] at q; exact (q.appR.appL).tail)
 have q2 := lgs_reps (w0 := w0) (Φ := fun w => Mem w0 w M) (tH := 24) (tB := 5) kS2.ok (fun w q => by rw [← hM] at q; exact (q.appL).tail)
 have s1 := hW1.stand
 have s2 := hW2.stand
 rw [← kv1] at s1
 rw [← kv2] at s2
 have e1 : ks1.length = (ks1.map Lg.val).length := (List.length_map ..).symm
 have e2 : ks2.length = (ks2.map Lg.val).length := (List.length_map ..).symm
 rw [e1] at v1 ⊢
 rw [e2] at v2 ⊢
 refine CW.region (OW.rv (RV.move rfl) rfl (OW.rv (RV.move rfl) rfl ?_))
 refine OW.want rfl ?_; refine OW.rv (RV.move rfl) rfl ?_
 refine OW.rv (RV.pick_t rfl rfl rfl) rfl (OW.rv (RV.move rfl) rfl ?_)
 refine OW.want rfl ?_; refine OW.rv (RV.move rfl) rfl ?_
 refine OW.want rfl ?_; refine OW.callG Tryd.call56 rfl (waybilllaw17_stand_does w0 (fun w => Mem w0 w M) M (fun w m => m) _ c1 (lgC ks1) (ks1.map Lg.val) 50#8 true v1 q1 s1) rfl rfl ?_; rintro _ G5 rfl; refine OW.mem (M' := M) (fun w m => m.appR) ?_
 refine OW.rv (RV.pick_t rfl rfl rfl) rfl (OW.rv (RV.move rfl) rfl ?_)
 refine OW.want rfl ?_; refine OW.rv (RV.move rfl) rfl ?_
 refine OW.want rfl ?_; refine OW.callG Tryd.call56 rfl (waybilllaw17_stand_does w0 (fun w => Mem w0 w M) M (fun w m => m) _ c2 (lgC ks2) (ks2.map Lg.val) 90#8 true v2 q2 s2) rfl rfl ?_; rintro _ G6 rfl; refine OW.mem (M' := N) (fun w m => by rw [← hM] at m; exact m.appR.appR.appR) ?_
 refine OW.rv (RV.pick_t rfl rfl rfl) rfl (OW.rv (RV.assign rfl) rfl (OW.nil ?_))
 (refine QW.then_n ?_; refine CW.ret ?_)
 refine QW.retG (rs := [.tmp 4]) [.bool true] [] rfl ?_ rfl ⟨rfl, rfl⟩ (fun w m => m) _ (.inl rfl)
 exact ⟨rfl, trivial⟩
theorem own_rcpt {w0 : World} {Φ : Ctx} {gs : List Lg} {ob : Option Nat} {c : Nat} {r : List Value} {x : Rcpt} (hok : ∀ g ∈ gs, g.Ok) (ho : OwnS ob gs.length c 22 (lgC gs) r) (hv : gs.map Lg.val = x.logs) (hk : -9223372036854775808 ≤ x.kind ∧ x.kind ≤ 9223372036854775807) (hm : ∀ w, Φ w → Mem w0 w ((ob, blk (lgC gs ++ r) 63) :: lgs 24 5 gs)) :
  RcptRd Φ (⟨x.kind, x.rooted, x.root, x.status, x.used, x.bloom, sl ob 0 gs.length c⟩ : RcptC).C x := by
 have hvl := ho.view (te := 63) (w0 := w0) (Ψ := Φ) (by decide) (fun w q => (hm w q).sublist (List.singleton_sublist.2 (List.mem_cons_self ..)))
 have hrl := lgs_reps (w0 := w0) (Φ := Φ) (tH := 24) (tB := 5) hok (fun w q => (hm w q).tail)
 obtain ⟨k, ro, rt, st, us, bl, lg⟩ := x
 dsimp only at hv hk ⊢
 subst hv
 have hvl2 : View Φ (ob.map fun k => ⟨k, 0, none⟩) (gs.map Lg.val).length c 22 (lgC gs) := by rw [List.length_map]; exact hvl
 have := RcptRd.mk (kind := k) (rooted := ro) (root := rt) (status := st) (used := us) (bloom := bl) (logs := gs.map Lg.val) hk hvl2 hrl
 rw [List.length_map] at this
 exact this
theorem waybilllaw17_ReceiptMakes_does (w0 : World) (Φ : Ctx) (N : List Ent) (hΦ : ∀ w, Mem w0 w N → Φ w) (kind : Int) (status used : BitVec 64) (A : Option Addr) (c : Nat) (cs : List Value) (logs : List Log) (x : Rcpt) (e : Int) (e2 : Nat) (b : Vector (BitVec 8) 256) (hkb : -9223372036854775808 ≤ kind ∧ kind ≤ 9223372036854775807) (va : View Φ A logs.length c 22 cs) (ha : Reps (LogRd Φ) cs logs)
  (hTn : ∀ i, i < 25 → w0.cell? ⟨4, i, none⟩ = some (.int .i64 (turnsL.getD i 0))) (hRn : ∀ i, i < 24 → w0.cell? ⟨3, i, none⟩ = some (U64 (g64 roundsL i))) (hg2 : View Φ (some ⟨2, 0, none⟩) 2 2 1 (u8s firstL))
  (htw : waybilllaw17_twin logs = some logs) (hmk : receipt_Make kind status used logs = some (x, e)) (hmr : waybillref17_Make kind status used logs = some (x, e2)) (he : e = (e2 : Int)) (hb1 : receipt_BloomOf logs = some b) (hb2 : waybillref17_BloomOf logs = some b) (hsame : waybilllaw17_sameReceipt x x = some true) (hnum : waybilllaw17_num e = some e) (hstill : waybilllaw17_stillLogs logs logs = some true)
  (hfit : ∀ y ∈ x.logs, (y.topics.length + 101) * 32 ≤ 140737488355328 ∧ y.data.length + 100 ≤ 140737488355328) :
  DoesG Tryd.prog 5 [.int .i64 kind, U64 status, U64 used, .slice A logs.length c] w0 [] N (fun v G => v = .bool true) := by
 refine DoesG.enter Tryd.func5 rfl Tryd.ntmps5 rfl (M := N) rfl (CW.seq (CW.region (OW.rv (RV.assign rfl) rfl (OW.nil ?_))))
 (refine QW.then_n ?_; refine CW.seq ?_)
 refine CW.region (OW.rv (RV.move rfl) rfl ?_)
 refine OW.callG Tryd.call18 rfl (waybilllaw17_twin_does w0 Φ N hΦ A c cs logs logs va ha htw) rfl rfl ?_; rintro _ BB ⟨B, A1, k1, hLR, rfl, hB⟩; rw [hB]; clear hB BB
 refine OW.rv (RV.assign rfl) rfl (OW.nil ?_)
 (refine QW.then_n ?_; refine CW.seq ?_)
 have hΨ : ∀ w, Mem w0 w (B ++ N) → More w0 Φ B w := fun w m => ⟨hΦ w m.appR, m.appL⟩
 generalize hN1 : B ++ N = N1 at hΨ ⊢
 replace va := va.mono (Ψ := More w0 Φ B) (fun w q => q.1)
 replace ha := ha.mono (LogRd.mono (Ψ := More w0 Φ B) (fun w q => q.1))
 replace hg2 := hg2.mono (Ψ := More w0 Φ B) (fun w q => q.1)
 generalize hΨ1 : More w0 Φ B = Ψ at *
 obtain ⟨cs1, vb, v1, r0⟩ := hLR.opn
 have rl := r0.mono LmRd.log
 refine CW.region (OW.rv (RV.move rfl) rfl (OW.rv (RV.move rfl) rfl (OW.rv (RV.move rfl) rfl (OW.rv (RV.move rfl) rfl ?_))))
 refine OW.callG Tryd.call26 rfl (receipt_Make_own w0 Ψ N1 hΨ kind status used A1 k1 cs1 logs x e hkb v1 rl hg2 hmk) rfl rfl ?_; rintro _ _ ⟨gs1, ob1, c1, r1, B1, hok1, ho1, hv1, heb, hxk, rfl, rfl⟩; refine OW.mem (M' := (ob1, blk (lgC gs1 ++ r1) 63) :: (lgs 24 5 gs1 ++ N1)) (fun w m => by rw [List.cons_append, List.append_assoc] at m; exact m.sublist (List.Sublist.cons_cons _ (List.Sublist.append (List.Sublist.refl _) (List.sublist_append_right _ _)))) ?_
 refine OW.rv (RV.move rfl) rfl (OW.rv (RV.extract rfl rfl) rfl (OW.rv (RV.extract rfl rfl) rfl (OW.alloc (l := RcptZ.C) rfl (by kernel_rfl) rfl (fun b10 => (OW.sv (SV.storeW rfl rfl rfl (RcptC.C_one _ rfl) rfl (RcptC.C_length _) (RcptC.C_length _)) (OW.rv (RV.assign rfl) rfl (OW.nil ?_)))))))
 (refine QW.then_n ?_; refine CW.seq ?_)
 refine CW.region (OW.rv (RV.move rfl) rfl (OW.rv (RV.move rfl) rfl (OW.rv (RV.move rfl) rfl (OW.rv (RV.move rfl) rfl ?_))))
 refine OW.callG Tryd.call26 rfl (receipt_Make_own w0 Ψ ((some b10, blk (⟨x.kind, x.rooted, x.root, x.status, x.used, x.bloom, sl ob1 0 gs1.length c1⟩ : RcptC).C 30) :: (ob1, blk (lgC gs1 ++ r1) 63) :: (lgs 24 5 gs1 ++ N1)) (fun w m => hΨ w (m.drop 2).appR) kind status used A1 k1 cs1 logs x e hkb v1 rl hg2 hmk) rfl rfl ?_; rintro _ _ ⟨gs2, ob2, c2, r2, B2, hok2, ho2, hv2, _, _, rfl, rfl⟩; refine OW.mem (M' := (some b10, blk (⟨x.kind, x.rooted, x.root, x.status, x.used, x.bloom, sl ob1 0 gs1.length c1⟩ : RcptC).C 30) :: (((ob2, blk (lgC gs2 ++ r2) 63) :: lgs 24 5 gs2) ++ ((ob1, blk (lgC gs1 ++ r1) 63) :: (lgs 24 5 gs1 ++ N1)))) (fun w m => by rw [List.cons_append, List.append_assoc] at m; exact (m.sublist (List.Sublist.cons_cons _ (List.Sublist.append (List.Sublist.refl _) (List.sublist_append_right _ _)))).perm (List.perm_middle (l₁ := (ob2, blk (lgC gs2 ++ r2) 63) :: lgs 24 5 gs2))) ?_
 refine OW.rv (RV.move rfl) rfl (OW.rv (RV.extract rfl rfl) rfl (OW.rv (RV.extract rfl rfl) rfl (OW.alloc (l := RcptZ.C) rfl (by kernel_rfl) rfl (fun b12 => (OW.sv (SV.storeW rfl rfl rfl (RcptC.C_one _ rfl) rfl (RcptC.C_length _) (RcptC.C_length _)) (OW.rv (RV.assign rfl) rfl (OW.nil ?_)))))))
 (refine QW.then_n ?_; refine CW.seq ?_)
 generalize hK : (((ob2, blk (lgC gs2 ++ r2) 63) :: lgs 24 5 gs2) ++ ((ob1, blk (lgC gs1 ++ r1) 63) :: (lgs 24 5 gs1 ++ N1))) = K
 have hKN : ∀ w, Mem w0 w K → Mem w0 w N1 := fun w m => by rw [← hK] at m; exact (m.appR).tail.appR
 refine CW.region (OW.rv (RV.move rfl) rfl (OW.rv (RV.move rfl) rfl (OW.rv (RV.move rfl) rfl (OW.rv (RV.move rfl) rfl ?_))))
 refine OW.callG Tryd.call27 rfl (waybillref17_Make_does w0 Ψ ((some b12, blk (⟨x.kind, x.rooted, x.root, x.status, x.used, x.bloom, sl ob2 0 gs2.length c2⟩ : RcptC).C 30) :: (some b10, blk (⟨x.kind, x.rooted, x.root, x.status, x.used, x.bloom, sl ob1 0 gs1.length c1⟩ : RcptC).C 30) :: K) (fun w m => hΨ w (hKN w (m.drop 2))) kind status used A c cs logs x e2 hkb va ha hTn hRn hmr) rfl rfl ?_; rintro _ BB ⟨B3, cr3, hr3, heb2, rfl, hB⟩; rw [hB]; clear hB BB; refine OW.mem (M' := (some b12, blk (⟨x.kind, x.rooted, x.root, x.status, x.used, x.bloom, sl ob2 0 gs2.length c2⟩ : RcptC).C 30) :: (some b10, blk (⟨x.kind, x.rooted, x.root, x.status, x.used, x.bloom, sl ob1 0 gs1.length c1⟩ : RcptC).C 30) :: (B3 ++ K)) (fun w m => m.perm (List.perm_append_comm_assoc B3 [_, _] K)) ?_
 refine OW.rv (RV.move rfl) rfl (OW.rv (RV.extract rfl rfl) rfl (OW.rv (RV.extract rfl rfl) rfl (OW.alloc (l := RcptZ.C) rfl (by kernel_rfl) rfl (fun b14 => (OW.sv (SV.storeW rfl rfl rfl (RcptRd.one _ _ hr3) rfl (RcptC.C_length _) (RcptRd.len _ _ hr3)) (OW.rv (RV.assign rfl) rfl (OW.nil ?_)))))))
 (refine QW.then_n ?_; refine CW.seq ?_; refine CW.seq ?_)
 have hr3l := RcptRd.len _ _ hr3
 generalize hM : ((some b14, blk cr3 30) :: (some b12, blk (⟨x.kind, x.rooted, x.root, x.status, x.used, x.bloom, sl ob2 0 gs2.length c2⟩ : RcptC).C 30) :: (some b10, blk (⟨x.kind, x.rooted, x.root, x.status, x.used, x.bloom, sl ob1 0 gs1.length c1⟩ : RcptC).C 30) :: (B3 ++ K)) = M
 have hMK : ∀ w, Mem w0 w M → Mem w0 w K := fun w m => by rw [← hM] at m; exact (m.drop 3).appR
 have hMΨ : ∀ w, Mem w0 w M → Ψ w := fun w m => hΨ w (hKN w (hMK w m))
 have q3 : RcptRd (fun w => Mem w0 w M) cr3 x := RcptRd.mono (fun w m => ⟨hMΨ w m, by rw [← hM] at m; exact (m.drop 3).appL⟩) _ _ hr3
 have q2 : RcptRd (fun w => Mem w0 w M) _ x := own_rcpt (w0 := w0) hok2 ho2 hv2 hxk (fun w m => by have := hMK w m; rw [← hK] at this; exact this.appL)
 have q1 : RcptRd (fun w => Mem w0 w M) _ x := own_rcpt (w0 := w0) hok1 ho1 hv1 hxk (fun w m => by have := hMK w m; rw [← hK] at this; exact (this.appR (B := (ob2, blk (lgC gs2 ++ r2) 63) :: lgs 24 5 gs2)).sublist (List.Sublist.cons_cons _ (List.sublist_append_left _ _)))
 have in14 : (some b14, blk cr3 30) ∈ M := by rw [← hM]; exact List.Mem.head _
 have in12 : (some b12, blk (⟨x.kind, x.rooted, x.root, x.status, x.used, x.bloom, sl ob2 0 gs2.length c2⟩ : RcptC).C 30) ∈ M := by rw [← hM]; exact List.Mem.tail _ (List.Mem.head _)
 have in10 : (some b10, blk (⟨x.kind, x.rooted, x.root, x.status, x.used, x.bloom, sl ob1 0 gs1.length c1⟩ : RcptC).C 30) ∈ M := by rw [← hM]; exact List.Mem.tail _ (List.Mem.tail _ (List.Mem.head _))
 refine CW.region (OW.rv (RV.loadW rfl in10 rfl rfl rfl rfl (RcptC.C_length _)) rfl (OW.rv (RV.loadW rfl in14 rfl rfl rfl rfl hr3l) rfl (OW.callG Tryd.call16 rfl (waybilllaw17_sameReceipt_does w0 (fun w => Mem w0 w M) M (fun w m => m) _ x cr3 x true q1 q3 hsame) rfl rfl ?_)))
 rintro _ G1 rfl
 refine OW.mem (M' := M) (fun w m => m.appR) (OW.rv (RV.not rfl) rfl (OW.rv (RV.move rfl) rfl (OW.want rfl (OW.rv (RV.loadW rfl in12 rfl rfl rfl rfl (RcptC.C_length _)) rfl (OW.want rfl (OW.rv (RV.loadW rfl in14 rfl rfl rfl rfl hr3l) rfl (OW.want rfl ?_)))))))
 refine OW.callG Tryd.call16 rfl (waybilllaw17_sameReceipt_does w0 (fun w => Mem w0 w M) M (fun w m => m) _ x cr3 x true q2 q3 hsame) rfl rfl ?_
 rintro _ G2 rfl
 refine OW.mem (M' := M) (fun w m => m.appR) (OW.want rfl (OW.rv (RV.not rfl) rfl (OW.rv (RV.pick_f rfl rfl rfl) rfl (OW.rv (RV.move rfl) rfl (OW.want rfl (OW.rv (RV.move rfl) rfl (OW.want rfl ?_)))))))
 refine OW.callG Tryd.call15 rfl (waybilllaw17_num_does w0 (fun w => Mem w0 w M) M (fun w m => m) e e heb hnum) rfl rfl ?_
 rintro _ G3 ⟨_, rfl⟩
 refine OW.mem (M' := M) (fun w m => m.appR) (OW.want rfl (OW.rv (RV.move rfl) rfl (OW.want rfl (OW.rv (RV.neq_f rfl rfl (by omega)) rfl (OW.rv (RV.pick_f rfl rfl rfl) rfl (OW.rv (RV.move rfl) rfl (OW.want rfl ?_)))))))
 refine OW.rv (RV.move rfl) rfl (OW.want rfl (OW.callG Tryd.call28 rfl (receipt_BloomOf_does w0 Ψ M hMΨ A1 k1 cs1 logs b v1 rl hg2 hb1) rfl rfl ?_))
 rintro _ G4 rfl
 refine OW.mem (M' := M) (fun w m => m.appR) (OW.want rfl (OW.rv (RV.move rfl) rfl (OW.want rfl (OW.callG Tryd.call29 rfl (waybillref17_BloomOf_does w0 Ψ M hMΨ A c cs logs b va ha hTn hRn hb2) rfl rfl ?_))))
 rintro _ G5 rfl
 refine OW.mem (M' := M) (fun w m => m.appR) (OW.want rfl (OW.rv (RV.neA8_f rfl rfl rfl rfl rfl rfl (Vector.length_toList) rfl) rfl (OW.rv (RV.pick_f rfl rfl rfl) rfl (OW.nil (QW.then_n (CW.cond_f rfl ?_))))))
 (refine CW.skip ?_; refine QW.then_n ?_; refine CW.seq ?_)
 refine CW.region (OW.rv (RV.field rfl rfl rfl rfl) rfl (OW.rv (RV.load rfl in10 rfl rfl rfl (RcptC.C_logs _)) rfl (OW.rv (RV.field rfl rfl rfl rfl) rfl (OW.rv (RV.load rfl in12 rfl rfl rfl (RcptC.C_logs _)) rfl ?_))))
 refine OW.mem (M' := (((ob1, blk (lgC gs1 ++ r1) 63) :: lgs 24 5 gs1) ++ ((ob2, blk (lgC gs2 ++ r2) 63) :: lgs 24 5 gs2)) ++ N1) (fun w m => by have := hMK w m; rw [← hK] at this; rw [List.append_assoc]; exact this.perm (List.perm_append_comm_assoc _ ((ob1, blk (lgC gs1 ++ r1) 63) :: lgs 24 5 gs1) N1)) ?_
 have fit1 : ∀ g ∈ gs1, (g.t.length + 101) * 32 ≤ 140737488355328 ∧ g.d.length + 100 ≤ 140737488355328 := fun g hg => hfit g.val (by rw [← hv1]; exact List.mem_map.2 ⟨g, hg, rfl⟩)
 have fit2 : ∀ g ∈ gs2, (g.t.length + 101) * 32 ≤ 140737488355328 ∧ g.d.length + 100 ≤ 140737488355328 := fun g hg => hfit g.val (by rw [← hv2]; exact List.mem_map.2 ⟨g, hg, rfl⟩)
 refine OW.callG Tryd.call30 rfl (waybilllaw17_apart_does w0 N1 ob1 ob2 c1 c2 r1 r2 gs1 gs2 hok1 ho1 hok2 ho2 fit1 fit2) rfl rfl ?_
 rintro _ _ ⟨rfl, rfl⟩
 refine OW.mem (M' := N1) (fun w m => m) (OW.rv (RV.assign rfl) rfl (OW.nil ?_))
 (refine QW.then_n ?_; refine CW.seq ?_)
 refine CW.region (OW.rv (RV.move rfl) rfl (OW.rv (RV.move rfl) rfl (OW.want rfl (OW.rv (RV.move rfl) rfl (OW.want rfl (OW.rv (RV.move rfl) rfl (OW.want rfl ?_)))))))
 refine OW.callG Tryd.call24 rfl (waybilllaw17_stillLogs_does w0 Ψ N1 hΨ A1 k1 logs A c cs logs true hLR va ha hstill) rfl rfl ?_
 rintro _ G7 rfl
 refine OW.mem (M' := N1) (fun w m => m.appR) (OW.rv (RV.pick_t rfl rfl rfl) rfl (OW.rv (RV.assign rfl) rfl (OW.nil ?_)))
 (refine QW.then_n ?_; refine CW.ret ?_)
 refine QW.retG (rs := [.tmp 8]) [.bool true] B rfl ?_ rfl rfl (fun w m => by rw [hN1]; exact m) _ (.inl rfl)
 exact ⟨rfl, trivial⟩
end Go.Fw.Tryd
namespace Go.Fw
set_option linter.unusedVariables false
set_option linter.unusedSimpArgs false
set_option maxRecDepth 100000
def be : Nat → Nat → List (BitVec 8)
  | 0, _ => []
  | k + 1, n => BitVec.ofNat 8 (n / 256 ^ k) :: be k n
def bl (n : Nat) : Nat := if n = 0 then 0 else n.log2 + 1
end Go.Fw
namespace Go.Fw
set_option linter.unusedVariables false
set_option linter.unusedSimpArgs false
set_option maxRecDepth 100000
def nb (n : Nat) : Nat := (bl n + 7) / 8
def bytesN (n : Nat) : List (BitVec 8) := be (nb n) n
end Go.Fw
namespace Go.Fw
set_option linter.unusedVariables false
set_option linter.unusedSimpArgs false
set_option maxRecDepth 100000
def small (s : List (BitVec 8)) (h : Nat) : Bool := match s[h]? with
  | some x => decide (x.toNat < 128)
  | none => false
end Go.Fw
namespace Go.Fw
set_option linter.unusedVariables false
set_option linter.unusedSimpArgs false
set_option maxRecDepth 100000
def headB (c n : Nat) : List (BitVec 8) := if n ≤ 55 then [BitVec.ofNat 8 (c + n)] else BitVec.ofNat 8 (c + 55 + nb n) :: bytesN n
end Go.Fw
namespace Go.Fw
set_option linter.unusedVariables false
set_option linter.unusedSimpArgs false
set_option maxRecDepth 100000
def oneB (d : List (BitVec 8)) : Bool := decide (d.length = 1) && small d 0
mutual
def It.enc : It → List (BitVec 8)
  | .mk l d its => if l = true then headB 192 (Its.enc its).length ++ Its.enc its else if oneB d = true then d else headB 128 d.length ++ d
def Its.enc : List It → List (BitVec 8)
  | [] => []
  | x :: xs => It.enc x ++ Its.enc xs
end
end Go.Fw
namespace Go.Fw
set_option linter.unusedVariables false
set_option linter.unusedSimpArgs false
set_option maxRecDepth 10000
theorem absorb_loop (a0 : Sponge) : ∀ (d i k : Nat) (w : Sponge), i + d = 136 → d < k → ∃ w', keccak_Sponge_absorb.l1 a0 k i w = some w' ∧ w'.kind = w.kind ∧ w'.long = w.long
  | 0, i, k, w, h, hk => by
    obtain ⟨k, rfl⟩ : ∃ m, k = m + 1 := ⟨k - 1, by omega⟩
    exact ⟨w, by rw [keccak_Sponge_absorb.l1, if_neg (by omega)], rfl, rfl⟩
  | d + 1, i, k, w, h, hk => by
    obtain ⟨k, rfl⟩ : ∃ m, k = m + 1 := ⟨k - 1, by omega⟩
    rw [keccak_Sponge_absorb.l1, if_pos (by omega), Vector.getElem?_eq_getElem (by omega), Option.bind_some, if_pos (by omega), Vector.getElem?_eq_getElem (by omega), Option.bind_some]
    obtain ⟨w', e1, e2, e3⟩ := absorb_loop a0 d (i + 1) k _ (by omega) (by omega)
    exact ⟨w', e1, e2, e3⟩
theorem absorb_total (s : Sponge) : ∃ s', keccak_Sponge_absorb s = some s' ∧ s'.kind = s.kind ∧ s'.long = s.long ∧ s'.held = 0 := by
  unfold keccak_Sponge_absorb
  obtain ⟨w, e1, e2, e3⟩ := absorb_loop s 136 0 (136 - 0 + 2) s (by omega) (by omega)
  rw [e1, Option.bind_some]
  exact ⟨_, rfl, e2, e3, rfl⟩
theorem write_loop : ∀ (n k : Nat) (l : List (BitVec 8)) (w : Sponge), l.length ≤ n → n < k → 0 ≤ w.held → w.held < 136 → ∃ w', keccak_Sponge_Write.l1 k l w = some w' ∧ 0 ≤ w'.held ∧ w'.held < 136 ∧ w'.kind = w.kind ∧ w'.long = w.long
  | n, 0, l, w, hn, hk, h0, h1 => by omega
  | n, k + 1, l, w, hn, hk, h0, h1 => by
    rw [keccak_Sponge_Write.l1]
    by_cases hl : 0 < l.length
    · have hm : 0 < min l.length (136 - w.held.toNat) := by omega
      rw [if_pos hl, if_pos h0, if_pos (by omega), if_pos (Nat.min_le_left ..), if_pos (by constructor <;> (show _ ≤ _; dsimp only; omega))]
      by_cases hf : w.held + ((min l.length (136 - w.held.toNat) : Nat) : Int) = 136
      · rw [if_pos hf]
        obtain ⟨s', e1, e2, e3, e4⟩ := absorb_total ({ ({ w with part := cpV w.part ((w.held).toNat) (l.take (min l.length (136 - ((w.held).toNat)))) } : Sponge) with held := (({ w with part := cpV w.part ((w.held).toNat) (l.take (min l.length (136 - ((w.held).toNat)))) } : Sponge).held + (((min l.length (136 - ((w.held).toNat))) : Nat) : Int)) } : Sponge)
        rw [e1, Option.bind_some, Option.bind_some]
        obtain ⟨w', f1, f2, f3, f4, f5⟩ := write_loop (n - 1) k (l.drop (min l.length (136 - w.held.toNat))) s' (by rw [List.length_drop]; omega) (by omega) (by omega) (by omega)
        exact ⟨w', f1, f2, f3, f4.trans e2, f5.trans e3⟩
      · rw [if_neg hf, Option.bind_some]
        obtain ⟨w', f1, f2, f3, f4, f5⟩ := write_loop (n - 1) k (l.drop (min l.length (136 - w.held.toNat))) ({ ({ w with part := cpV w.part ((w.held).toNat) (l.take (min l.length (136 - ((w.held).toNat)))) } : Sponge) with held := (({ w with part := cpV w.part ((w.held).toNat) (l.take (min l.length (136 - ((w.held).toNat)))) } : Sponge).held + (((min l.length (136 - ((w.held).toNat))) : Nat) : Int)) } : Sponge) (by rw [List.length_drop]; omega) (by omega) (show 0 ≤ w.held + ((min l.length (136 - w.held.toNat) : Nat) : Int) by omega) (show w.held + ((min l.length (136 - w.held.toNat) : Nat) : Int) < 136 by omega)
        exact ⟨w', f1, f2, f3, f4, f5⟩
    · rw [if_neg hl]
      exact ⟨w, rfl, h0, h1, rfl, rfl⟩
theorem write_total (s : Sponge) (l : List (BitVec 8)) (h0 : 0 ≤ s.held) (h1 : s.held < 136) (h2 : -9223372036854775808 ≤ s.long + ((l.length : Nat) : Int) ∧ s.long + ((l.length : Nat) : Int) ≤ 9223372036854775807) : ∃ s', keccak_Sponge_Write s l = some s' ∧ 0 ≤ s'.held ∧ s'.held < 136 ∧ s'.kind = s.kind ∧ s'.long = s.long + ((l.length : Nat) : Int) := by
  unfold keccak_Sponge_Write
  rw [if_pos h2]
  obtain ⟨w, e1, e2, e3, e4, e5⟩ := write_loop l.length (l.length - 0 + 2) l ({ s with long := (s.long + ((l.length : Nat) : Int)) } : Sponge) (Nat.le_refl _) (by omega) h0 h1
  rw [e1, Option.bind_some]
  exact ⟨w, rfl, e2, e3, e4, e5⟩
end Go.Fw
namespace Go.Fw
set_option linter.unusedVariables false
set_option linter.unusedSimpArgs false
set_option maxRecDepth 10000
abbrev V25 := Vector (BitVec 64) 25
def permV (a : V25) : V25 := match keccak_Permute a with
  | some r => r
  | none => a
theorem perm_eq (a : V25) : keccak_Permute a = some (permV a) := rfl
def xin (b : List (BitVec 8)) : Nat → Nat → V25 → V25
  | 0, _, a => a
  | d + 1, i, a => xin b d (i + 1) (a.setIfInBounds (i / 8) ((a[i / 8]?.getD 0#64) ^^^ (((b[i]?.getD 0#8).setWidth 64) <<< (8 * (i % 8)))))
def takeIn (b : List (BitVec 8)) (a : V25) : V25 := permV (xin b 136 0 a)
def soak : Nat → List (BitVec 8) → V25 → V25
  | 0, _, a => a
  | n + 1, l, a => soak n (l.drop 136) (takeIn (l.take 136) a)
def zeroV : V25 := Vector.replicate 25 0#64
theorem soak_snoc : ∀ (n : Nat) (l : List (BitVec 8)) (a : V25), soak (n + 1) l a = takeIn ((l.drop (136 * n)).take 136) (soak n l a)
  | 0, l, a => by rw [soak, soak, soak, Nat.mul_zero, List.drop_zero]
  | n + 1, l, a => by
    rw [soak, soak_snoc n, soak, List.drop_drop]
    congr 3
    omega
theorem soak_congr : ∀ (n : Nat) (l l' : List (BitVec 8)) (a : V25), l.take (136 * n) = l'.take (136 * n) → soak n l a = soak n l' a
  | 0, l, l', a, h => rfl
  | n + 1, l, l', a, h => by
    rw [soak_snoc, soak_snoc]
    have h1 : l.take (136 * n) = l'.take (136 * n) := by
      have := congrArg (List.take (136 * n)) h
      rwa [List.take_take, List.take_take, Nat.min_eq_left (by omega)] at this
    have h2 : (l.drop (136 * n)).take 136 = (l'.drop (136 * n)).take 136 := by
      have := congrArg (List.drop (136 * n)) h
      rwa [List.drop_take, List.drop_take, show 136 * (n + 1) - 136 * n = 136 by omega] at this
    rw [h2, soak_congr n l l' a h1]
theorem absorb_loop_eq (s : Sponge) : ∀ (d i k : Nat) (w : Sponge), i + d = 136 → d < k → keccak_Sponge_absorb.l1 s k i w = some { w with lanes := xin s.part.toList d i w.lanes }
  | 0, i, k, w, h, hk => by
    obtain ⟨k, rfl⟩ : ∃ m, k = m + 1 := ⟨k - 1, by omega⟩
    rw [keccak_Sponge_absorb.l1, if_neg (by omega)]
    rfl
  | d + 1, i, k, w, h, hk => by
    obtain ⟨k, rfl⟩ : ∃ m, k = m + 1 := ⟨k - 1, by omega⟩
    have h1 : i < 136 := by omega
    have h2 : i / 8 < 25 := by omega
    rw [keccak_Sponge_absorb.l1, if_pos h1, Vector.getElem?_eq_getElem h1, Option.bind_some, if_pos h2, Vector.getElem?_eq_getElem h2, Option.bind_some, absorb_loop_eq s d (i + 1) k _ (by omega) (by omega)]
    have e1 : (s.part.toList)[i]? = some s.part[i] := by rw [Vector.getElem?_toList, Vector.getElem?_eq_getElem h1]
    simp only [xin, e1, Option.getD_some, Vector.getElem?_eq_getElem h2]
theorem absorb_eq (s : Sponge) : keccak_Sponge_absorb s = some { s with lanes := takeIn s.part.toList s.lanes, held := 0 } := by
  unfold keccak_Sponge_absorb
  rw [absorb_loop_eq s 136 0 (136 - 0 + 2) s (by omega) (by omega), Option.bind_some, perm_eq, Option.bind_some]
  rfl
structure Took (s : Sponge) (t : List (BitVec 8)) : Prop where
  held : s.held = ((t.length % 136 : Nat) : Int)
  lanes : s.lanes = soak (t.length / 136) t zeroV
  part : s.part.toList.take (t.length % 136) = t.drop (136 * (t.length / 136))
theorem took_loop : ∀ (n k : Nat) (l : List (BitVec 8)) (w : Sponge) (t : List (BitVec 8)), l.length ≤ n → n < k → Took w t → ∃ w', keccak_Sponge_Write.l1 k l w = some w' ∧ Took w' (t ++ l) ∧ w'.kind = w.kind ∧ w'.long = w.long
  | n, 0, l, w, t, hn, hk, ht => by omega
  | n, k + 1, l, w, t, hn, hk, ht => by
    have hq : t.length = 136 * (t.length / 136) + t.length % 136 := (Nat.div_add_mod _ _).symm
    have hm : t.length % 136 < 136 := Nat.mod_lt _ (by decide)
    have hh := ht.held
    rw [keccak_Sponge_Write.l1]
    by_cases hl : 0 < l.length
    · generalize hM : min l.length (136 - w.held.toNat) = M
      have hM' : M = min l.length (136 - t.length % 136) := by rw [← hM, hh]; rfl
      have hMl : M ≤ l.length := by omega
      have hM0 : 0 < M := by omega
      have hN : w.held.toNat = t.length % 136 := by rw [hh]; rfl
      have hlen : (l.take M).length = M := by rw [List.length_take]; omega
      have hfit : t.length % 136 + (l.take M).length ≤ 136 := by omega
      have hcp := cpV_toList w.part (lo := t.length % 136) (l := l.take M) hfit
      have htl : (t ++ l.take M).length = t.length + M := by rw [List.length_append, hlen]
      rw [if_pos hl, if_pos (by omega), if_pos (by omega), if_pos hMl, if_pos (by constructor <;> (show _ ≤ _; dsimp only; omega)), hN]
      have hsplit : t ++ l = (t ++ l.take M) ++ l.drop M := by rw [List.append_assoc, List.take_append_drop]
      by_cases hf : w.held + ((M : Nat) : Int) = 136
      · rw [if_pos hf, absorb_eq, Option.bind_some, Option.bind_some, hsplit]
        have hd : (t.length + M) / 136 = t.length / 136 + 1 := by omega
        have hr : (t.length + M) % 136 = 0 := by omega
        obtain ⟨w', f1, f2, f3, f4⟩ := took_loop (n - 1) k (l.drop M) _ (t ++ l.take M) (by rw [List.length_drop]; omega) (by omega) (⟨by rw [htl, hr]; rfl, by
            rw [htl, hd, soak_snoc]
            show takeIn (cpV w.part (t.length % 136) (l.take M)).toList w.lanes = _
            rw [ht.lanes]
            congr 1
            · have hz : w.part.toList.drop (t.length % 136 + (l.take M).length) = [] := List.drop_eq_nil_of_le (by rw [Vector.length_toList, hlen]; omega)
              have hT : (t.drop (136 * (t.length / 136)) ++ l.take M).take 136 = t.drop (136 * (t.length / 136)) ++ l.take M := List.take_of_length_le (by rw [List.length_append, List.length_drop, hlen]; omega)
              rw [hcp, ht.part, hz, List.drop_append_of_le_length (by omega), List.append_nil, hT]
            · exact soak_congr _ _ _ _ (by rw [List.take_append_of_le_length (by omega)]), by rw [htl, hr, List.take_zero, hd, List.drop_eq_nil_of_le (by rw [htl]; omega)]⟩ : Took ({ ({ ({ w with part := cpV w.part (t.length % 136) (l.take M) } : Sponge) with held := (({ w with part := cpV w.part (t.length % 136) (l.take M) } : Sponge).held + ((M : Nat) : Int)) } : Sponge) with lanes := takeIn (({ ({ w with part := cpV w.part (t.length % 136) (l.take M) } : Sponge) with held := (({ w with part := cpV w.part (t.length % 136) (l.take M) } : Sponge).held + ((M : Nat) : Int)) } : Sponge)).part.toList (({ ({ w with part := cpV w.part (t.length % 136) (l.take M) } : Sponge) with held := (({ w with part := cpV w.part (t.length % 136) (l.take M) } : Sponge).held + ((M : Nat) : Int)) } : Sponge)).lanes, held := 0 } : Sponge) (t ++ l.take M))
        exact ⟨w', f1, f2, f3, f4⟩
      · have hd : (t.length + M) / 136 = t.length / 136 := by omega
        have hr : (t.length + M) % 136 = t.length % 136 + M := by omega
        rw [if_neg hf, Option.bind_some, hsplit]
        obtain ⟨w', f1, f2, f3, f4⟩ := took_loop (n - 1) k (l.drop M) ({ ({ w with part := cpV w.part (t.length % 136) (l.take M) } : Sponge) with held := (({ w with part := cpV w.part (t.length % 136) (l.take M) } : Sponge).held + ((M : Nat) : Int)) } : Sponge) (t ++ l.take M) (by rw [List.length_drop]; omega) (by omega) ⟨by
            show w.held + ((M : Nat) : Int) = _
            rw [htl, hr]; omega, by
            show w.lanes = _
            rw [htl, hd, ht.lanes]
            exact soak_congr _ _ _ _ (by rw [List.take_append_of_le_length (by omega)]), by
            show (cpV w.part (t.length % 136) (l.take M)).toList.take _ = _
            rw [htl, hr, hd, hcp, List.take_left' (by rw [List.length_append, List.length_take, Vector.length_toList]; omega), ht.part, List.drop_append_of_le_length (by omega)]⟩
        exact ⟨w', f1, f2, f3, f4⟩
    · rw [if_neg hl]
      obtain rfl : l = [] := List.length_eq_zero_iff.1 (by omega)
      exact ⟨w, rfl, by rw [List.append_nil]; exact ht, rfl, rfl⟩
theorem write_took (s : Sponge) (t l : List (BitVec 8)) (h : Took s t) (h2 : -9223372036854775808 ≤ s.long + ((l.length : Nat) : Int) ∧ s.long + ((l.length : Nat) : Int) ≤ 9223372036854775807) : ∃ s', keccak_Sponge_Write s l = some s' ∧ Took s' (t ++ l) ∧ s'.kind = s.kind ∧ s'.long = s.long + ((l.length : Nat) : Int) := by
  unfold keccak_Sponge_Write
  rw [if_pos h2]
  obtain ⟨w, e1, e2, e3, e4⟩ := took_loop l.length (l.length - 0 + 2) l ({ s with long := (s.long + ((l.length : Nat) : Int)) } : Sponge) t (Nat.le_refl _) (by omega) ⟨h.held, h.lanes, h.part⟩
  rw [e1, Option.bind_some]
  exact ⟨w, rfl, e2, e3, e4⟩
def padB (r : List (BitVec 8)) (f : BitVec 8) : List (BitVec 8) := (r ++ f :: List.replicate (135 - r.length) 0#8).set 135 ((if r.length = 135 then f else 0#8) ||| 128#8)
def sq (a : V25) : Nat → Nat → Vector (BitVec 8) 32 → Vector (BitVec 8) 32
  | 0, _, w => w
  | d + 1, i, w => sq a d (i + 1) (w.setIfInBounds i (((a[i / 8]?.getD 0#64) >>> (8 * (i % 8))).setWidth 8))
def digestR (t : List (BitVec 8)) (f : BitVec 8) : Vector (BitVec 8) 32 := sq (takeIn (padB (t.drop (136 * (t.length / 136))) f) (soak (t.length / 136) t zeroV)) 32 0 (Vector.replicate 32 0#8)
theorem sum_loop_eq (x : Sponge) : ∀ (d i k : Nat) (w : Vector (BitVec 8) 32), i + d = 32 → d < k → keccak_Sponge_Sum.l1 x k i w = some (sq x.lanes d i w)
  | 0, i, k, w, h, hk => by
    obtain ⟨k, rfl⟩ : ∃ m, k = m + 1 := ⟨k - 1, by omega⟩
    rw [keccak_Sponge_Sum.l1, if_neg (by omega)]
    rfl
  | d + 1, i, k, w, h, hk => by
    obtain ⟨k, rfl⟩ : ∃ m, k = m + 1 := ⟨k - 1, by omega⟩
    have h2 : i / 8 < 25 := by omega
    rw [keccak_Sponge_Sum.l1, if_pos (by omega), if_pos h2, Vector.getElem?_eq_getElem h2, Option.bind_some, sum_loop_eq x d (i + 1) k _ (by omega) (by omega)]
    simp only [sq, Vector.getElem?_eq_getElem h2, Option.getD_some]
theorem set_at {α : Type} (r : List α) (x y : α) (z : List α) {i : Nat} (h : r.length = i) : (r ++ x :: z).set i y = r ++ y :: z := by
  rw [List.set_append_right _ _ (by omega), show i - r.length = 0 by omega, List.set_cons_zero]
theorem ssum_eq (s : Sponge) (t : List (BitVec 8)) (h : Took s t) (f : BitVec 8) (hk : (s.kind = 0 ∧ f = 1#8) ∨ (s.kind = 1 ∧ f = 6#8)) : keccak_Sponge_Sum s = some (digestR t f, s) := by
  have hm : t.length % 136 < 136 := Nat.mod_lt _ (by decide)
  have hh := h.held
  have hN : s.held.toNat = t.length % 136 := by rw [hh]; rfl
  have hkk : 0 ≤ s.kind := by omega
  have hfst : firstL[s.kind.toNat]? = some f := by
    rcases hk with ⟨e, rfl⟩ | ⟨e, rfl⟩ <;> rw [e] <;> rfl
  have hr : (t.drop (136 * (t.length / 136))).length = t.length % 136 := by rw [List.length_drop]; omega
  have hP1 := cpV_toList s.part (lo := t.length % 136) (l := List.replicate (136 - t.length % 136) 0#8) (by rw [List.length_replicate]; omega)
  have hz : s.part.toList.drop (t.length % 136 + (List.replicate (136 - t.length % 136) 0#8).length) = [] := List.drop_eq_nil_of_le (by rw [Vector.length_toList, List.length_replicate]; omega)
  rw [h.part, hz, List.append_nil, show 136 - t.length % 136 = (135 - t.length % 136) + 1 by omega, List.replicate_succ] at hP1
  unfold keccak_Sponge_Sum
  rw [if_pos (by omega), if_pos (by omega)]
  dsimp only
  rw [if_pos (by omega), if_pos (by omega), hN]
  generalize hP : cpV s.part (t.length % 136) (List.replicate (136 - t.length % 136) 0#8) = P
  have hPl : P.toList = t.drop (136 * (t.length / 136)) ++ 0#8 :: List.replicate (135 - t.length % 136) 0#8 := by rw [← hP]; rw [show 136 - t.length % 136 = (135 - t.length % 136) + 1 by omega, List.replicate_succ]; exact hP1
  have hPh : P[t.length % 136]? = some 0#8 := by rw [← Vector.getElem?_toList, hPl, List.getElem?_append_right (by omega), hr, Nat.sub_self]; rfl
  rw [hPh, Option.bind_some, if_pos hkk, hfst, Option.bind_some]
  generalize hS : (Sponge.mk _ _ _ _ _ : Sponge) = S
  rw [absorb_eq, Option.bind_some, sum_loop_eq _ 32 0 _ _ (by omega) (by omega), Option.bind_some]
  have h1 : S.lanes = s.lanes := by rw [← hS]
  have h2 : S.part.toList = padB (t.drop (136 * (t.length / 136))) f := by
    rw [← hS]
    show ((P.setIfInBounds (t.length % 136) (0#8 ^^^ f)).setIfInBounds 135 ((P.setIfInBounds (t.length % 136) (0#8 ^^^ f))[135] ^^^ 128#8)).toList = _
    generalize hQ : P.setIfInBounds (t.length % 136) (0#8 ^^^ f) = Q
    have hQl : Q.toList = t.drop (136 * (t.length / 136)) ++ f :: List.replicate (135 - t.length % 136) 0#8 := by
      rw [← hQ, ← vset, hPl, set_at _ _ _ _ hr, BitVec.zero_xor]
    have hQx : Q[135] = if t.length % 136 = 135 then f else 0#8 := by
      have e1 : Q.toList[135]? = some Q[135] := by rw [Vector.getElem?_toList, Vector.getElem?_eq_getElem (by decide)]
      rw [hQl, List.getElem?_append_right (by omega), hr] at e1
      by_cases c : t.length % 136 = 135
      · rw [if_pos c]
        rw [c] at e1
        exact (Option.some.inj e1).symm
      · rw [if_neg c]
        obtain ⟨j, hj⟩ : ∃ j, 135 - t.length % 136 = j + 1 := ⟨135 - t.length % 136 - 1, by omega⟩
        rw [hj, List.getElem?_cons_succ, List.getElem?_replicate, if_pos (by omega)] at e1
        exact (Option.some.inj e1).symm
    have hf : f ^^^ 128#8 = f ||| 128#8 := by rcases hk with ⟨_, rfl⟩ | ⟨_, rfl⟩ <;> rfl
    have hx : Q[135] ^^^ 128#8 = (if t.length % 136 = 135 then f else 0#8) ||| 128#8 := by
      rw [hQx]
      split
      · exact hf
      · rfl
    rw [hx, ← vset, hQl]
    unfold padB
    rw [hr]
  dsimp only
  rw [h1, h2, h.lanes]
  rfl
theorem digest_loop_eq (a : List (List (BitVec 8))) : ∀ (d i k : Nat) (w : Sponge) (t : List (BitVec 8)), i + d = a.length → d < k → Took w t → 0 ≤ w.long → w.long + (((a.drop i).flatten.length : Nat) : Int) ≤ 9223372036854775807 → ∃ w', keccak_digest.l1 a k i w = some w' ∧ Took w' (t ++ (a.drop i).flatten) ∧ w'.kind = w.kind
  | 0, i, k, w, t, h, hk, ht, h0, hl => by
    obtain ⟨k, rfl⟩ : ∃ m, k = m + 1 := ⟨k - 1, by omega⟩
    refine ⟨w, by rw [keccak_digest.l1, if_neg (by omega)], ?_, rfl⟩
    rw [List.drop_eq_nil_of_le (by omega), List.flatten_nil, List.append_nil]
    exact ht
  | d + 1, i, k, w, t, h, hk, ht, h0, hl => by
    obtain ⟨k, rfl⟩ : ∃ m, k = m + 1 := ⟨k - 1, by omega⟩
    have h1 : i < a.length := by omega
    rw [List.drop_eq_getElem_cons h1, List.flatten_cons, List.length_append] at hl
    obtain ⟨s', e1, e2, e3, e4⟩ := write_took w t a[i] ht ⟨by omega, by omega⟩
    obtain ⟨w', f1, f2, f3⟩ := digest_loop_eq a d (i + 1) k s' (t ++ a[i]) (by omega) (by omega) e2 (by omega) (by omega)
    refine ⟨w', by rw [keccak_digest.l1, if_pos h1, List.getElem?_eq_getElem h1, Option.bind_some, e1, Option.bind_some, f1], ?_, f3.trans e3⟩
    rw [List.drop_eq_getElem_cons h1, List.flatten_cons, ← List.append_assoc]
    exact f2
theorem took_zero (k : Int) : Took (⟨k, Vector.replicate 25 0#64, Vector.replicate 136 0#8, 0, 0⟩ : Sponge) [] := ⟨rfl, rfl, by rw [List.length_nil]; rfl⟩
theorem digest_eq (k : Int) (a : List (List (BitVec 8))) (f : BitVec 8) (hk : (k = 0 ∧ f = 1#8) ∨ (k = 1 ∧ f = 6#8)) (hl : a.flatten.length ≤ 9223372036854775807) : keccak_digest k a = some (digestR a.flatten f) := by
  unfold keccak_digest
  obtain ⟨w, e1, e2, e3⟩ := digest_loop_eq a a.length 0 (a.length - 0 + 2) (⟨k, Vector.replicate 25 0#64, Vector.replicate 136 0#8, 0, 0⟩ : Sponge) [] (by omega) (by omega) (took_zero k) (by show (0 : Int) ≤ 0; omega) (by rw [List.drop_zero]; show (0 : Int) + _ ≤ _; omega)
  rw [List.drop_zero, List.nil_append] at e2
  have e1' : keccak_digest.l1 a (a.length - 0 + 2) 0 ({ (⟨0, (Vector.replicate 25 0#64), (Vector.replicate 136 0#8), 0, 0⟩ : Sponge) with kind := k } : Sponge) = some w := e1
  rw [e1', Option.bind_some, ssum_eq w a.flatten e2 f (by rw [e3]; exact hk), Option.bind_some]
theorem ksum_eq (a : List (List (BitVec 8))) (hl : a.flatten.length ≤ 9223372036854775807) : keccak_Sum a = some (digestR a.flatten 1#8) := by
  unfold keccak_Sum
  rw [digest_eq 0 a 1#8 (.inl ⟨rfl, rfl⟩) hl, Option.bind_some]
end Go.Fw
namespace Go.Fw
set_option linter.unusedVariables false
set_option linter.unusedSimpArgs false
set_option maxRecDepth 10000
theorem filled_loop : ∀ (d k : Nat) (l : List (BitVec 8)), (l.length + d) % 136 = 0 → d < 136 → d < k → l.length + d ≤ 140737488355328 → waybillref02_filled.l1 k l = some (l ++ List.replicate d 0#8)
  | 0, k, l, h, hd, hk, hb => by
    obtain ⟨k, rfl⟩ : ∃ m, k = m + 1 := ⟨k - 1, by omega⟩
    rw [waybillref02_filled.l1, if_pos (by omega)]
    simp
  | d + 1, k, l, h, hd, hk, hb => by
    obtain ⟨k, rfl⟩ : ∃ m, k = m + 1 := ⟨k - 1, by omega⟩
    rw [waybillref02_filled.l1, if_neg (by omega), if_pos (by simp; omega), filled_loop d k _ (by simp; omega) (by omega) (by omega) (by simp; omega), List.append_assoc, List.replicate_succ]
    rfl
theorem padB_len (r : List (BitVec 8)) (f : BitVec 8) (h : r.length ≤ 135) : (padB r f).length = 136 := by unfold padB; simp; omega
theorem filled_eq (t : List (BitVec 8)) (f : BitVec 8) (ht : t.length + 137 ≤ 140737488355328) : waybillref02_filled t f = some (t.take (136 * (t.length / 136)) ++ padB (t.drop (136 * (t.length / 136))) f) := by
  have hm : t.length % 136 < 136 := Nat.mod_lt _ (by decide)
  have hq : t.length = 136 * (t.length / 136) + t.length % 136 := (Nat.div_add_mod _ _).symm
  have hr : (t.drop (136 * (t.length / 136))).length = t.length % 136 := by rw [List.length_drop]; omega
  have hlen : (t ++ [f]).length = t.length + 1 := by simp
  unfold waybillref02_filled
  rw [if_pos (by simp; omega), filled_loop (135 - t.length % 136) 140 (t ++ [f]) (by omega) (by omega) (by omega) (by omega), Option.bind_some]
  have hL : t ++ [f] ++ List.replicate (135 - t.length % 136) 0#8 = t.take (136 * (t.length / 136)) ++ (t.drop (136 * (t.length / 136)) ++ f :: List.replicate (135 - t.length % 136) 0#8) := by
    rw [← List.append_assoc, List.take_append_drop, List.append_assoc]
    rfl
  have hLl : (t ++ [f] ++ List.replicate (135 - t.length % 136) 0#8).length = 136 * (t.length / 136) + 136 := by simp; omega
  have hi : ((((t ++ [f] ++ List.replicate (135 - t.length % 136) 0#8).length : Nat) : Int) - (1 : Int)).toNat = 136 * (t.length / 136) + 135 := by rw [hLl]; omega
  have htk : (t.take (136 * (t.length / 136))).length = 136 * (t.length / 136) := by rw [List.length_take]; omega
  have hx : (t ++ [f] ++ List.replicate (135 - t.length % 136) 0#8)[136 * (t.length / 136) + 135]? = some (if t.length % 136 = 135 then f else 0#8) := by
    rw [hL, List.getElem?_append_right (by omega), htk, show 136 * (t.length / 136) + 135 - 136 * (t.length / 136) = 135 by omega, List.getElem?_append_right (by omega), hr]
    by_cases c : t.length % 136 = 135
    · rw [if_pos c, c]; rfl
    · rw [if_neg c]
      obtain ⟨j, hj⟩ : ∃ j, 135 - t.length % 136 = j + 1 := ⟨135 - t.length % 136 - 1, by omega⟩
      rw [hj, List.getElem?_cons_succ, List.getElem?_replicate, if_pos (by omega)]
  rw [if_pos (by omega), hi, hx, Option.bind_some, Option.bind_some, hL, List.set_append_right _ _ (by omega), htk, show 136 * (t.length / 136) + 135 - 136 * (t.length / 136) = 135 by omega]
  unfold padB
  rw [hr]
theorem rin_loop (F : List (BitVec 8)) (n : Nat) (hn : n + 136 ≤ F.length) : ∀ (d i k : Nat) (w : V25), i + d = 136 → d < k → waybillref02_Digest.l3 F n k i w = some (xin ((F.drop n).take 136) d i w)
  | 0, i, k, w, h, hk => by
    obtain ⟨k, rfl⟩ : ∃ m, k = m + 1 := ⟨k - 1, by omega⟩
    rw [waybillref02_Digest.l3, if_neg (by omega)]
    rfl
  | d + 1, i, k, w, h, hk => by
    obtain ⟨k, rfl⟩ : ∃ m, k = m + 1 := ⟨k - 1, by omega⟩
    have h2 : i / 8 < 25 := by omega
    have h3 : n + i < F.length := by omega
    have h4 : ((F.drop n).take 136)[i]? = some F[n + i] := by rw [List.getElem?_take, if_pos (by omega), List.getElem?_drop, List.getElem?_eq_getElem h3]
    have h5 : (BitVec.ofNat 64 (8 * (i % 8))).toNat = 8 * (i % 8) := by rw [BitVec.toNat_ofNat]; omega
    rw [waybillref02_Digest.l3, if_pos (by omega), if_pos h2, Vector.getElem?_eq_getElem h2, Option.bind_some, List.getElem?_eq_getElem h3, Option.bind_some, rin_loop F n hn d (i + 1) k _ (by omega) (by omega), h5]
    simp only [xin, h4, Vector.getElem?_eq_getElem h2, Option.getD_some]
theorem rblk_loop (F : List (BitVec 8)) : ∀ (d j k : Nat) (w : V25), 136 * (j + d) = F.length → d < k → waybillref02_Digest.l2 F k (136 * j) w = some (soak d (F.drop (136 * j)) w)
  | 0, j, k, w, h, hk => by
    obtain ⟨k, rfl⟩ : ∃ m, k = m + 1 := ⟨k - 1, by omega⟩
    rw [waybillref02_Digest.l2, if_neg (by omega)]
    rfl
  | d + 1, j, k, w, h, hk => by
    obtain ⟨k, rfl⟩ : ∃ m, k = m + 1 := ⟨k - 1, by omega⟩
    rw [waybillref02_Digest.l2, if_pos (by omega), rin_loop F _ (by omega) 136 0 (136 - 0 + 2) w (by omega) (by omega), Option.bind_some, perm_eq, Option.bind_some, show 136 * j + 136 = 136 * (j + 1) by omega, rblk_loop F d (j + 1) k _ (by omega) (by omega), soak, List.drop_drop, show 136 * j + 136 = 136 * (j + 1) by omega]
    rfl
theorem rsq_loop (x : V25) : ∀ (d i k : Nat) (w : Vector (BitVec 8) 32), i + d = 32 → d < k → waybillref02_Digest.l1 x k i w = some (sq x d i w)
  | 0, i, k, w, h, hk => by
    obtain ⟨k, rfl⟩ : ∃ m, k = m + 1 := ⟨k - 1, by omega⟩
    rw [waybillref02_Digest.l1, if_neg (by omega)]
    rfl
  | d + 1, i, k, w, h, hk => by
    obtain ⟨k, rfl⟩ : ∃ m, k = m + 1 := ⟨k - 1, by omega⟩
    have h2 : i / 8 < 25 := by omega
    have h5 : (BitVec.ofNat 64 (8 * (i % 8))).toNat = 8 * (i % 8) := by rw [BitVec.toNat_ofNat]; omega
    rw [waybillref02_Digest.l1, if_pos (by omega), if_pos h2, Vector.getElem?_eq_getElem h2, Option.bind_some, rsq_loop x d (i + 1) k _ (by omega) (by omega), h5]
    simp only [sq, Vector.getElem?_eq_getElem h2, Option.getD_some]
theorem rdigest_eq (t : List (BitVec 8)) (f : BitVec 8) (ht : t.length + 137 ≤ 140737488355328) : waybillref02_Digest t f = some (digestR t f) := by
  have hm : t.length % 136 < 136 := Nat.mod_lt _ (by decide)
  have hq : t.length = 136 * (t.length / 136) + t.length % 136 := (Nat.div_add_mod _ _).symm
  have hr : (t.drop (136 * (t.length / 136))).length = t.length % 136 := by rw [List.length_drop]; omega
  have htk : (t.take (136 * (t.length / 136))).length = 136 * (t.length / 136) := by rw [List.length_take]; omega
  have hp := padB_len (t.drop (136 * (t.length / 136))) f (by omega)
  unfold waybillref02_Digest
  rw [filled_eq t f ht, Option.bind_some]
  generalize hF : t.take (136 * (t.length / 136)) ++ padB (t.drop (136 * (t.length / 136))) f = F
  have hFl : F.length = 136 * (t.length / 136 + 1) := by rw [← hF, List.length_append, htk, hp]; omega
  have h2 := rblk_loop F (t.length / 136 + 1) 0 (F.length - 0 + 2) zeroV (by omega) (by omega)
  rw [Nat.mul_zero, List.drop_zero] at h2
  have h2' : waybillref02_Digest.l2 F (F.length - 0 + 2) 0 (Vector.replicate 25 0#64) = some (soak (t.length / 136 + 1) F zeroV) := h2
  rw [h2', Option.bind_some, rsq_loop _ 32 0 (32 - 0 + 2) _ (by omega) (by omega), Option.bind_some, soak_snoc]
  have h3 : (F.drop (136 * (t.length / 136))).take 136 = padB (t.drop (136 * (t.length / 136))) f := by
    rw [← hF, List.drop_left' htk, List.take_of_length_le (by omega)]
  have h4 : soak (t.length / 136) F zeroV = soak (t.length / 136) t zeroV := soak_congr _ _ _ _ (by rw [← hF, List.take_left' htk])
  rw [h3, h4]
  rfl
theorem joined_loop (a : List (List (BitVec 8))) : ∀ (d i k : Nat) (l : List (BitVec 8)), i + d = a.length → d < k → l.length + (a.drop i).flatten.length ≤ 140737488355328 → waybillref02_joined.l1 a k l i = some (l ++ (a.drop i).flatten)
  | 0, i, k, l, h, hk, hb => by
    obtain ⟨k, rfl⟩ : ∃ m, k = m + 1 := ⟨k - 1, by omega⟩
    rw [waybillref02_joined.l1, if_neg (by omega), List.drop_eq_nil_of_le (by omega)]
    simp
  | d + 1, i, k, l, h, hk, hb => by
    obtain ⟨k, rfl⟩ : ∃ m, k = m + 1 := ⟨k - 1, by omega⟩
    have h1 : i < a.length := by omega
    rw [List.drop_eq_getElem_cons h1, List.flatten_cons, List.length_append] at hb
    rw [waybillref02_joined.l1, if_pos h1, List.getElem?_eq_getElem h1, Option.bind_some, if_pos (by omega), joined_loop a d (i + 1) k _ (by omega) (by omega) (by rw [List.length_append]; omega), List.drop_eq_getElem_cons h1, List.flatten_cons, List.append_assoc]
theorem joined_eq (a : List (List (BitVec 8))) (hb : a.flatten.length ≤ 140737488355328) : waybillref02_joined a = some a.flatten := by
  unfold waybillref02_joined
  rw [joined_loop a a.length 0 (a.length - 0 + 2) [] (by omega) (by omega) (by rw [List.drop_zero, List.length_nil]; omega), Option.bind_some, List.drop_zero, List.nil_append]
theorem rsum_eq (a : List (List (BitVec 8))) (hb : a.flatten.length + 137 ≤ 140737488355328) : waybillref02_Sum a = some (digestR a.flatten 1#8) := by
  unfold waybillref02_Sum
  rw [joined_eq a (by omega), Option.bind_some, rdigest_eq _ _ hb, Option.bind_some]
end Go.Fw
namespace Go.Fw
set_option linter.unusedVariables false
set_option linter.unusedSimpArgs false
set_option maxRecDepth 10000
theorem ssum_loop (x : Sponge) : ∀ (d i k : Nat) (w : Vector (BitVec 8) 32), i + d = 32 → d < k → ∃ w', keccak_Sponge_Sum.l1 x k i w = some w'
  | 0, i, k, w, h, hk => by
    obtain ⟨k, rfl⟩ : ∃ m, k = m + 1 := ⟨k - 1, by omega⟩
    exact ⟨w, by rw [keccak_Sponge_Sum.l1, if_neg (by omega)]⟩
  | d + 1, i, k, w, h, hk => by
    obtain ⟨k, rfl⟩ : ∃ m, k = m + 1 := ⟨k - 1, by omega⟩
    rw [keccak_Sponge_Sum.l1, if_pos (by omega), if_pos (by omega), Vector.getElem?_eq_getElem (by omega), Option.bind_some]
    exact ssum_loop x d (i + 1) k _ (by omega) (by omega)
theorem ssum_total (s : Sponge) (h0 : 0 ≤ s.held) (h1 : s.held < 136) (hk : s.kind = 0 ∨ s.kind = 1) : ∃ r, keccak_Sponge_Sum s = some r := by
  unfold keccak_Sponge_Sum
  rw [if_pos h0, if_pos (by omega)]
  dsimp only
  have hf : ∃ f, firstL[s.kind.toNat]? = some f := by
    rcases hk with e | e <;> rw [e]
    · exact ⟨1#8, rfl⟩
    · exact ⟨6#8, rfl⟩
  obtain ⟨f, hf⟩ := hf
  rw [if_pos h0, if_pos (by omega), Vector.getElem?_eq_getElem (by omega), Option.bind_some, if_pos (by omega), hf, Option.bind_some]
  generalize hS : (Sponge.mk _ _ _ _ _ : Sponge) = S
  obtain ⟨s', e1, _⟩ := absorb_total S
  rw [e1, Option.bind_some]
  obtain ⟨w', e2⟩ := ssum_loop s' 32 0 (32 - 0 + 2) (Vector.replicate 32 0#8) (by omega) (by omega)
  rw [e2, Option.bind_some]
  exact ⟨_, rfl⟩
theorem sum_total (t : List (BitVec 8)) (ht : t.length ≤ 140737488355328) : ∃ h, keccak_Sum [t] = some h := by
  unfold keccak_Sum keccak_digest
  obtain ⟨w, e1, e2, e3, e4, e5⟩ := write_total ({ (⟨0, (Vector.replicate 25 0#64), (Vector.replicate 136 0#8), 0, 0⟩ : Sponge) with kind := (0 : Int) } : Sponge) t (by show (0 : Int) ≤ 0; omega) (by show (0 : Int) < 136; omega) (by show -9223372036854775808 ≤ (0 : Int) + _ ∧ (0 : Int) + _ ≤ _; omega)
  have hl : keccak_digest.l1 [t] ([t].length - 0 + 2) 0 ({ (⟨0, (Vector.replicate 25 0#64), (Vector.replicate 136 0#8), 0, 0⟩ : Sponge) with kind := (0 : Int) } : Sponge) = some w := by
    show keccak_digest.l1 [t] (2 + 1) 0 _ = some w
    rw [keccak_digest.l1, if_pos (by simp)]
    show (some t).bind _ = _
    rw [Option.bind_some, e1, Option.bind_some, keccak_digest.l1, if_neg (by simp)]
  rw [hl, Option.bind_some]
  obtain ⟨⟨h, w'⟩, e6⟩ := ssum_total w e2 e3 (.inl e4)
  rw [e6, Option.bind_some]
  exact ⟨h, rfl⟩
theorem places_total (t : List (BitVec 8)) (ht : t.length ≤ 140737488355328) : ∃ p : Vector Int 3, bloom_Places t = some p ∧ ∀ (i : Nat) (h : i < 3), 0 ≤ p[i] ∧ p[i] < (2048 : Int) := by
  unfold bloom_Places
  obtain ⟨h, e⟩ := sum_total t ht
  rw [e, Option.bind_some]
  have loop : ∀ (d i k : Nat) (w : Vector Int 3), i + d = 3 → d < k → (∀ (j : Nat) (hj : j < 3), 0 ≤ w[j] ∧ w[j] < (2048 : Int)) → ∃ p, bloom_Places.l1 h k i w = some p ∧ ∀ (j : Nat) (hj : j < 3), 0 ≤ p[j] ∧ p[j] < (2048 : Int) := by
    intro d
    induction d with
    | zero =>
      intro i k w h1 h2 h3
      obtain ⟨k, rfl⟩ : ∃ m, k = m + 1 := ⟨k - 1, by omega⟩
      exact ⟨w, by rw [bloom_Places.l1, if_neg (by omega)], h3⟩
    | succ d ih =>
      intro i k w h1 h2 h3
      obtain ⟨k, rfl⟩ : ∃ m, k = m + 1 := ⟨k - 1, by omega⟩
      rw [bloom_Places.l1, if_pos (by omega), if_pos (by omega), Vector.getElem?_eq_getElem (by omega), Option.bind_some, if_pos (by omega), Vector.getElem?_eq_getElem (by omega), Option.bind_some]
      refine ih (i + 1) k _ (by omega) (by omega) fun j hj => ?_
      rw [Vector.getElem_setIfInBounds]
      split
      · omega
      · exact h3 j hj
  obtain ⟨p, e1, e2⟩ := loop 3 0 (3 - 0 + 2) (Vector.replicate 3 0) (by omega) (by omega) (by intro j hj; simp)
  rw [e1, Option.bind_some]
  exact ⟨p, rfl, e2⟩
end Go.Fw
namespace Go.Fw
set_option linter.unusedVariables false
set_option linter.unusedSimpArgs false
set_option maxRecDepth 10000
def bitV (b : Vector (BitVec 8) 256) (k : Nat) : Bool := (b[255 - k / 8]'(by omega)).getLsbD (k % 8)
theorem place_eq (k : Nat) (hk : k < 2048) : ((255 : Int) - ((((k : Nat) : Int).toNat / 8 : Nat) : Int)).toNat = 255 - k / 8 := by omega
theorem set_eq (b : Vector (BitVec 8) 256) (j : Nat) (hj : j < 2048) : ∃ b', bloom_set b ((j : Nat) : Int) = some b' ∧ ∀ k, k < 2048 → bitV b' k = (bitV b k || decide (k = j)) := by
  unfold bloom_set
  rw [if_pos (by omega), if_pos (by omega), place_eq j hj, if_pos (by omega), Vector.getElem?_eq_getElem (by omega), Option.bind_some, Int.toNat_natCast]
  refine ⟨_, rfl, fun k hk => ?_⟩
  unfold bitV
  rw [Vector.getElem_setIfInBounds]
  by_cases h : 255 - j / 8 = 255 - k / 8
  · rw [if_pos h, BitVec.getLsbD_or, BitVec.getLsbD_shiftLeft]
    have e : b[255 - j / 8] = b[255 - k / 8]'(by omega) := by congr 1
    rw [e]
    congr 1
    by_cases h2 : k = j
    · subst h2
      have : k % 8 < 8 := by omega
      simp [this]
    · have : k % 8 ≠ j % 8 := by omega
      rw [decide_eq_false h2]
      by_cases h3 : k % 8 < j % 8
      · simp [h3]
      · have : 0 < k % 8 - j % 8 := by omega
        have h4 : (1#8).getLsbD (k % 8 - j % 8) = false := by
          have : ∀ d, 0 < d → (1#8 : BitVec 8).getLsbD d = false := by
            intro d hd
            rw [BitVec.getLsbD_one]
            simp; omega
          exact this _ (by omega)
        rw [h4]; simp
  · rw [if_neg h]
    have : k ≠ j := fun e => h (by rw [e])
    simp [this]
theorem zero_bits (k : Nat) : bitV (Vector.replicate 256 0#8) k = false := by unfold bitV; simp
def inP (p : Vector Int 3) (k : Nat) : Bool := decide (p[0] = (k : Int)) || decide (p[1] = (k : Int)) || decide (p[2] = (k : Int))
theorem add_eq (b : Vector (BitVec 8) 256) (t : List (BitVec 8)) (p : Vector Int 3) (hp : bloom_Places t = some p) (hr : ∀ (i : Nat) (h : i < 3), 0 ≤ p[i] ∧ p[i] < (2048 : Int)) : ∃ b', bloom_Add b t = some b' ∧ ∀ k, k < 2048 → bitV b' k = (bitV b k || inP p k) := by
  unfold bloom_Add
  rw [hp, Option.bind_some]
  have r0 := hr 0 (by omega)
  have r1 := hr 1 (by omega)
  have r2 := hr 2 (by omega)
  obtain ⟨a0, e0⟩ : ∃ n : Nat, p[0] = (n : Int) := ⟨p[0].toNat, by omega⟩
  obtain ⟨a1, e1⟩ : ∃ n : Nat, p[1] = (n : Int) := ⟨p[1].toNat, by omega⟩
  obtain ⟨a2, e2⟩ : ∃ n : Nat, p[2] = (n : Int) := ⟨p[2].toNat, by omega⟩
  rw [e0] at r0; rw [e1] at r1; rw [e2] at r2
  obtain ⟨b1, f1, g1⟩ := set_eq b a0 (by omega)
  obtain ⟨b2, f2, g2⟩ := set_eq b1 a1 (by omega)
  obtain ⟨b3, f3, g3⟩ := set_eq b2 a2 (by omega)
  have h : bloom_Add.l1 p (3 - 0 + 2) 0 b = some b3 := by
    show bloom_Add.l1 p (4 + 1) 0 b = _
    rw [bloom_Add.l1, if_pos (by omega), Vector.getElem?_eq_getElem (by omega), Option.bind_some, e0, if_pos (by omega), f1, Option.bind_some]
    rw [bloom_Add.l1, if_pos (by omega), Vector.getElem?_eq_getElem (by omega), Option.bind_some]
    show (if -9223372036854775808 ≤ p[1] ∧ p[1] ≤ 9223372036854775807 then (bloom_set b1 p[1]).bind _ else none) = _
    rw [e1, if_pos (by omega), f2, Option.bind_some]
    rw [bloom_Add.l1, if_pos (by omega), Vector.getElem?_eq_getElem (by omega), Option.bind_some]
    show (if -9223372036854775808 ≤ p[2] ∧ p[2] ≤ 9223372036854775807 then (bloom_set b2 p[2]).bind _ else none) = _
    rw [e2, if_pos (by omega), f3, Option.bind_some]
    rw [bloom_Add.l1, if_neg (by omega)]
  rw [h, Option.bind_some]
  refine ⟨b3, rfl, fun k hk => ?_⟩
  rw [g3 k hk, g2 k hk, g1 k hk]
  unfold inP
  rw [e0, e1, e2]
  have c : ∀ m : Nat, decide (k = m) = decide ((m : Int) = (k : Int)) := fun m => decide_eq_decide.2 (by omega)
  rw [c, c, c]
  cases bitV b k <;> cases decide ((a0 : Int) = (k : Int)) <;> cases decide ((a1 : Int) = (k : Int)) <;> cases decide ((a2 : Int) = (k : Int)) <;> rfl
end Go.Fw
namespace Go.Fw
set_option linter.unusedVariables false
set_option linter.unusedSimpArgs false
set_option maxRecDepth 10000
def inT (t : List (BitVec 8)) (k : Nat) : Bool := match bloom_Places t with
  | some p => inP p k
  | none => false
def inL (l : List (List (BitVec 8))) (k : Nat) : Bool := l.any (fun t => inT t k)
theorem of_loop (a : List (List (BitVec 8))) (ha : ∀ t ∈ a, t.length ≤ 140737488355328) : ∀ (d i k : Nat) (w : Vector (BitVec 8) 256), i + d = a.length → d < k → (∀ q, q < 2048 → bitV w q = inL (a.take i) q) → ∃ w', bloom_Of.l1 a k i w = some w' ∧ ∀ q, q < 2048 → bitV w' q = inL a q
  | 0, i, k, w, h, hk, hw => by
    obtain ⟨k, rfl⟩ : ∃ m, k = m + 1 := ⟨k - 1, by omega⟩
    refine ⟨w, by rw [bloom_Of.l1, if_neg (by omega)], ?_⟩
    rwa [List.take_of_length_le (by omega)] at hw
  | d + 1, i, k, w, h, hk, hw => by
    obtain ⟨k, rfl⟩ : ∃ m, k = m + 1 := ⟨k - 1, by omega⟩
    have h1 : i < a.length := by omega
    obtain ⟨p, e1, e2⟩ := places_total a[i] (ha _ (List.getElem_mem h1))
    obtain ⟨b', f1, f2⟩ := add_eq w a[i] p e1 e2
    rw [bloom_Of.l1, if_pos h1, List.getElem?_eq_getElem h1, Option.bind_some, f1, Option.bind_some]
    refine of_loop a ha d (i + 1) k b' (by omega) (by omega) fun q hq => ?_
    rw [f2 q hq, hw q hq, List.take_add_one, List.getElem?_eq_getElem h1]
    unfold inL
    rw [List.any_append]
    simp [inT, e1]
theorem of_eq (a : List (List (BitVec 8))) (ha : ∀ t ∈ a, t.length ≤ 140737488355328) : ∃ b, bloom_Of a = some b ∧ (∀ q, q < 2048 → bitV b q = inL a q) ∧ (a = [] → b = Vector.replicate 256 0#8) := by
  unfold bloom_Of
  by_cases h0 : a = []
  · subst h0
    refine ⟨Vector.replicate 256 0#8, rfl, fun q _ => by rw [zero_bits]; rfl, fun _ => rfl⟩
  · obtain ⟨w, e1, e2⟩ := of_loop a ha a.length 0 (a.length - 0 + 2) (Vector.replicate 256 0#8) (by omega) (by omega) (fun q _ => by rw [zero_bits]; simp [inL])
    rw [e1, Option.bind_some]
    exact ⟨w, rfl, e2, fun h => absurd h h0⟩
end Go.Fw
namespace Go.Fw
set_option linter.unusedVariables false
set_option linter.unusedSimpArgs false
set_option maxRecDepth 10000
theorem rpl_loop (x : Vector (BitVec 8) 32) : ∀ (k n : Nat) (w : Vector Int 3), waybillref10_Places.l1 x k n w = bloom_Places.l1 x k n w
  | 0, n, w => rfl
  | k + 1, n, w => by
    rw [waybillref10_Places.l1, bloom_Places.l1]
    simp only [rpl_loop x k]
theorem rplaces_eq (t : List (BitVec 8)) (ht : t.length + 137 ≤ 140737488355328) : waybillref10_Places t = bloom_Places t := by
  unfold waybillref10_Places bloom_Places
  rw [rsum_eq [t] (by simpa using ht), ksum_eq [t] (by simp; omega), Option.bind_some, Option.bind_some, rpl_loop]
theorem rset_eq (b : Vector (BitVec 8) 256) (a : Int) : waybillref10_set b a = bloom_set b a := by
  have h : (BitVec.ofNat 64 (a.toNat % 8)).toNat = a.toNat % 8 := by rw [BitVec.toNat_ofNat]; omega
  unfold waybillref10_set bloom_set
  rw [h]
theorem radd_eq (b : Vector (BitVec 8) 256) (t : List (BitVec 8)) (ht : t.length + 137 ≤ 140737488355328) : waybillref10_Add b t = bloom_Add b t := by
  obtain ⟨p, e1, e2⟩ := places_total t (by omega)
  have r0 := e2 0 (by omega)
  have r1 := e2 1 (by omega)
  have r2 := e2 2 (by omega)
  obtain ⟨n0, h0⟩ : ∃ n : Nat, p[0] = (n : Int) := ⟨p[0].toNat, by omega⟩
  obtain ⟨n1, h1⟩ : ∃ n : Nat, p[1] = (n : Int) := ⟨p[1].toNat, by omega⟩
  obtain ⟨n2, h2⟩ : ∃ n : Nat, p[2] = (n : Int) := ⟨p[2].toNat, by omega⟩
  obtain ⟨b0, f0, _⟩ := set_eq b n0 (by omega)
  obtain ⟨b1, f1, _⟩ := set_eq b0 n1 (by omega)
  obtain ⟨b2, f2, _⟩ := set_eq b1 n2 (by omega)
  unfold waybillref10_Add bloom_Add
  rw [rplaces_eq t ht, e1, Option.bind_some, Option.bind_some, if_pos (by omega), rset_eq, h0, f0, Option.bind_some, if_pos (by omega), rset_eq, h1, f1, Option.bind_some, if_pos (by omega), rset_eq, h2, f2, Option.bind_some]
  have g0 : p[0]? = some (n0 : Int) := by rw [Vector.getElem?_eq_getElem (by omega), h0]
  have g1 : p[0 + 1]? = some (n1 : Int) := by rw [Vector.getElem?_eq_getElem (by omega)]; exact congrArg some h1
  have g2 : p[0 + 1 + 1]? = some (n2 : Int) := by rw [Vector.getElem?_eq_getElem (by omega)]; exact congrArg some h2
  have hl : bloom_Add.l1 p (3 - 0 + 2) 0 b = some b2 := by
    show bloom_Add.l1 p (4 + 1) 0 b = some b2
    rw [bloom_Add.l1, if_pos (by omega), g0, Option.bind_some, if_pos (by omega), f0, Option.bind_some]
    show bloom_Add.l1 p (3 + 1) (0 + 1) b0 = some b2
    rw [bloom_Add.l1, if_pos (by omega), g1, Option.bind_some, if_pos (by omega), f1, Option.bind_some]
    show bloom_Add.l1 p (2 + 1) (0 + 1 + 1) b1 = some b2
    rw [bloom_Add.l1, if_pos (by omega), g2, Option.bind_some, if_pos (by omega), f2, Option.bind_some]
    show bloom_Add.l1 p (1 + 1) (0 + 1 + 1 + 1) b2 = some b2
    rw [bloom_Add.l1, if_neg (by omega)]
  rw [hl, Option.bind_some]
theorem rof_loop (a : List (List (BitVec 8))) (ha : ∀ t ∈ a, t.length + 137 ≤ 140737488355328) : ∀ (k n : Nat) (w : Vector (BitVec 8) 256), waybillref10_Of.l1 a k n w = bloom_Of.l1 a k n w
  | 0, n, w => rfl
  | k + 1, n, w => by
    rw [waybillref10_Of.l1, bloom_Of.l1]
    by_cases h : n < a.length
    · rw [if_pos h, if_pos h, List.getElem?_eq_getElem h, Option.bind_some, Option.bind_some, radd_eq _ _ (ha _ (List.getElem_mem h))]
      simp only [rof_loop a ha k]
    · rw [if_neg h, if_neg h]
end Go.Fw
namespace Go.Fw
set_option linter.unusedVariables false
set_option linter.unusedSimpArgs false
set_option maxRecDepth 10000
def logT (x : Log) : List (List (BitVec 8)) := x.address.toList :: x.topics.map (·.toList)
def logsT (l : List Log) : List (List (BitVec 8)) := l.flatMap logT
theorem logT_len (x : Log) : (logT x).length = x.topics.length + 1 := by simp [logT]
theorem logsT_len (l : List Log) : (logsT l).length = (l.map fun x => x.topics.length + 1).sum := by
  induction l with
  | nil => rfl
  | cons x l ih => rw [logsT, List.flatMap_cons, List.length_append, logT_len, List.map_cons, List.sum_cons, ← ih]; rfl
theorem logsT_small {l : List Log} {t : List (BitVec 8)} (h : t ∈ logsT l) : t.length ≤ 32 := by
  obtain ⟨x, _, hx⟩ := List.mem_flatMap.1 h
  rcases List.mem_cons.1 hx with rfl | hx
  · rw [Vector.length_toList]; omega
  · obtain ⟨y, _, rfl⟩ := List.mem_map.1 hx
    rw [Vector.length_toList]; omega
theorem rbof_in (a : List Log) (n : Nat) (x : Log) (hx : a[n]? = some x) : ∀ (d i k : Nat) (l : List (List (BitVec 8))), i + d = x.topics.length → d < k → (l.length + d) * 24 ≤ 140737488355328 → receipt_BloomOf.l2 a n x k l i = some (l ++ (x.topics.drop i).map (·.toList))
  | 0, i, k, l, h, hk, hb => by
    obtain ⟨k, rfl⟩ : ∃ m, k = m + 1 := ⟨k - 1, by omega⟩
    rw [receipt_BloomOf.l2, if_neg (by omega), List.drop_eq_nil_of_le (by omega), List.map_nil, List.append_nil]
  | d + 1, i, k, l, h, hk, hb => by
    obtain ⟨k, rfl⟩ : ∃ m, k = m + 1 := ⟨k - 1, by omega⟩
    have h1 : i < x.topics.length := by omega
    rw [receipt_BloomOf.l2, if_pos h1, hx, Option.bind_some, List.getElem?_eq_getElem h1, Option.bind_some, if_pos (by simp; omega), rbof_in a n x hx d (i + 1) k _ (by omega) (by omega) (by simp; omega), List.append_assoc, List.singleton_append, List.drop_eq_getElem_cons h1, List.map_cons]
theorem rbof_out (a : List Log) : ∀ (d i k : Nat) (l : List (List (BitVec 8))), i + d = a.length → d < k → (l.length + (logsT (a.drop i)).length) * 24 ≤ 140737488355328 → receipt_BloomOf.l1 a k l i = some (l ++ logsT (a.drop i))
  | 0, i, k, l, h, hk, hb => by
    obtain ⟨k, rfl⟩ : ∃ m, k = m + 1 := ⟨k - 1, by omega⟩
    rw [receipt_BloomOf.l1, if_neg (by omega), List.drop_eq_nil_of_le (by omega)]
    simp [logsT]
  | d + 1, i, k, l, h, hk, hb => by
    obtain ⟨k, rfl⟩ : ∃ m, k = m + 1 := ⟨k - 1, by omega⟩
    have h1 : i < a.length := by omega
    have hx : a[i]? = some a[i] := List.getElem?_eq_getElem h1
    have hs : logsT (a.drop i) = logT a[i] ++ logsT (a.drop (i + 1)) := by rw [List.drop_eq_getElem_cons h1, logsT, List.flatMap_cons]; rfl
    rw [hs, List.length_append, logT_len] at hb
    rw [receipt_BloomOf.l1, if_pos h1, hx, Option.bind_some, if_pos (by simp; omega), Option.bind_some, rbof_in a i _ hx _ 0 _ _ (Nat.zero_add _) (by omega) (by simp; omega), Option.bind_some, rbof_out a d (i + 1) k _ (by omega) (by omega) (by simp; omega), hs, List.drop_zero]
    simp [logT]
theorem rbof_eq (a : List Log) (hb : (logsT a).length * 24 ≤ 140737488355328) : receipt_BloomOf a = bloom_Of (logsT a) := by
  unfold receipt_BloomOf
  rw [rbof_out a a.length 0 (a.length - 0 + 2) [] (by omega) (by omega) (by simpa using hb), Option.bind_some, List.drop_zero, List.nil_append]
  cases bloom_Of (logsT a) <;> rfl
theorem rbof_bits (a : List Log) (hb : (logsT a).length * 24 ≤ 140737488355328) : ∃ b, receipt_BloomOf a = some b ∧ (∀ q, q < 2048 → bitV b q = inL (logsT a) q) ∧ (logsT a = [] → b = Vector.replicate 256 0#8) := by
  rw [rbof_eq a hb]
  exact of_eq (logsT a) (fun t ht => by have := logsT_small ht; omega)
end Go.Fw
namespace Go.Fw
set_option linter.unusedVariables false
set_option linter.unusedSimpArgs false
set_option maxRecDepth 10000
def firstOk (k : Int) (ro : Bool) (rt : Vector (BitVec 8) 32) (st : BitVec 64) : Prop := (ro = true → k = 0 ∧ st = 0#64) ∧ (ro = false → rt = Vector.replicate 32 0#8 ∧ st.toNat ≤ 1)
def fewT (l : List Log) : Prop := ∀ x ∈ l, x.topics.length ≤ 4
end Go.Fw
