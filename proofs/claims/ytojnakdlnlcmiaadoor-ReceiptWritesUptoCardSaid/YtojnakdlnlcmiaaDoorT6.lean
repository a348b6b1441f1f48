/- Part of a proof: rules that its law uses. -/
import Derived.Test.YtojnakdlnlcmiaaDoorT5
namespace Go.Fw.Tryd
open Go Go.Proofs Go.Fw
set_option maxRecDepth 100000
set_option linter.unusedVariables false
set_option linter.unusedSimpArgs false
set_option maxHeartbeats 1000000
theorem receipt_Encode_does (w0 : World) (Φ : Ctx) (N : List Ent) (hΦ : ∀ w, Mem w0 w N → Φ w) (cs0_ : List Value) (a0 : Rcpt) (res0 : List (BitVec 8)) (res1 : Nat) (ha0 : RcptRd Φ cs0_ a0) (hg2 : View Φ (some ⟨2, 0, none⟩) 2 2 1 (u8s firstL)) (hf : receipt_Encode a0 = some (res0, res1)) : DoesG Tryd.prog 33 [.agg cs0_.toArray] w0 [] N (fun v G => ∃ B : List Ent, ∃ or0 : Option Nat, ∃ kr0 : Nat, ∃ rr0 : List Value, (OwnS or0 res0.length kr0 1 (u8s res0) rr0) ∧ (res1 ≤ 9223372036854775807) ∧ v = .tuple #[sl or0 0 res0.length kr0, .int .i64 ((res1 : Nat) : Int)] ∧ G = (or0, blk ((u8s res0) ++ rr0) 5) :: B) := by
 unfold receipt_Encode at hf
 replace hg2 := hg2.mono (Ψ := More w0 Φ []) (fun w q => q.1)
 replace ha0 := RcptRd.mono (Ψ := More w0 Φ []) (fun w q => q.1) _ _ ha0
 have h8 := ha0
 obtain ⟨A2, c3, cs5, e7, b1, v4, h6⟩ := RcptRd.opn ha0
 subst e7
 have m9 := v4.mx
 refine DoesG.enter Tryd.func33 rfl Tryd.ntmps33 rfl (M := (([] ++ N))) rfl (CW.seq (CW.region (OW.boxA rfl rfl (fun b10 => (OW.mem (M' := (((some b10, blk (⟨a0.kind, (a0.rooted), a0.root, a0.status, a0.used, a0.bloom, .slice A2 a0.logs.length c3⟩ : RcptC).C 30) :: []) ++ N)) (fun w m => m.pick [0] 1 rfl rfl) ?_)))))
 have gq1 : ∀ w, More w0 Φ ((some b10, blk (⟨a0.kind, (a0.rooted), a0.root, a0.status, a0.used, a0.bloom, .slice A2 a0.logs.length c3⟩ : RcptC).C 30) :: []) w → More w0 Φ [] w := fun w q => More.mono (fun w m => (m).tail) q
 replace h8 := RcptRd.mono gq1 _ _ h8
 replace v4 := v4.mono gq1
 replace h6 := h6.mono (LogRd.mono gq1)
 replace hg2 := hg2.mono gq1
 have hH11 : Held w0 (More w0 Φ ((some b10, blk (⟨a0.kind, (a0.rooted), a0.root, a0.status, a0.used, a0.bloom, .slice A2 a0.logs.length c3⟩ : RcptC).C 30) :: [])) b10 (⟨a0.kind, (a0.rooted), a0.root, a0.status, a0.used, a0.bloom, .slice A2 a0.logs.length c3⟩ : RcptC).C 30 := fun w q => q.2.sublist (List.singleton_sublist.2 (List.mem_cons_self ..))
 refine OW.rv (RV.assign rfl) rfl (OW.rv (RV.assign rfl) rfl (OW.nil (QW.then_n (CW.seq (CW.seq (CW.region (OW.rv (RV.loadWH rfl hH11 (fun w m => More.of hΦ 0 m rfl) rfl rfl rfl (RcptC.C_length _)) rfl ?_)))))))
 obtain ⟨x13, hx12, hf⟩ := some_bind hf
 refine OW.callG Tryd.call36 rfl (receipt_Check_does w0 (More w0 Φ ((some b10, blk (⟨a0.kind, (a0.rooted), a0.root, a0.status, a0.used, a0.bloom, .slice A2 a0.logs.length c3⟩ : RcptC).C 30) :: [])) ((((some b10, blk (⟨a0.kind, (a0.rooted), a0.root, a0.status, a0.used, a0.bloom, .slice A2 a0.logs.length c3⟩ : RcptC).C 30) :: []) ++ N)) (fun w m => More.of hΦ 0 m rfl) (⟨a0.kind, (a0.rooted), a0.root, a0.status, a0.used, a0.bloom, .slice A2 a0.logs.length c3⟩ : RcptC).C a0 x13 h8 hg2 hx12) rfl rfl ?_
 rintro _ G15 ⟨b14, rfl⟩
 refine OW.mem (M' := ((((some b10, blk (⟨a0.kind, (a0.rooted), a0.root, a0.status, a0.used, a0.bloom, .slice A2 a0.logs.length c3⟩ : RcptC).C 30) :: []) ++ N))) (fun w m => m.appR) (OW.rv (RV.assign rfl) rfl (OW.nil (QW.then_n (CW.seq (CW.region (OW.rv (RV.move rfl) rfl (OW.rv (RV.neq rfl rfl) rfl (OW.slot (.bool (!decide (x13 = 0))) (congrArg (fun b => Value.bool (!b)) (decide_eq_decide.2 (by omega))) (OW.nil (QW.then_n ?_))))))))))
 by_cases h17 : x13 = 0
 ·replace hf := if_t hf h17
  refine CW.is_f rfl (congrArg (fun b => !b) (decide_eq_true h17)) (CW.skip (QW.then_n (CW.seq (CW.region (OW.rv (RV.field rfl rfl rfl rfl) rfl (OW.slot (ptr (some b10) 34) rfl (OW.rv (RV.loadH rfl hH11 (fun w m => More.of hΦ 0 m rfl) rfl rfl (RcptC.C_status (⟨a0.kind, (a0.rooted), a0.root, a0.status, a0.used, a0.bloom, .slice A2 a0.logs.length c3⟩ : RcptC))) rfl ?_)))))))
  obtain ⟨x19, hx18, hf⟩ := some_bind hf
  refine OW.callG Tryd.call59 rfl (rlp_Small_does w0 (More w0 Φ ((some b10, blk (⟨a0.kind, (a0.rooted), a0.root, a0.status, a0.used, a0.bloom, .slice A2 a0.logs.length c3⟩ : RcptC).C 30) :: [])) ((((some b10, blk (⟨a0.kind, (a0.rooted), a0.root, a0.status, a0.used, a0.bloom, .slice A2 a0.logs.length c3⟩ : RcptC).C 30) :: []) ++ N)) (fun w m => More.of hΦ 0 m rfl) a0.status x19 hx18) rfl rfl ?_
  rintro L23 M24 ⟨B20, cs21, h22, e25, e26⟩
  rw [e25, e26]
  clear e25 e26 L23 M24
  refine OW.mem (M' := (((B20 ++ ((some b10, blk (⟨a0.kind, (a0.rooted), a0.root, a0.status, a0.used, a0.bloom, .slice A2 a0.logs.length c3⟩ : RcptC).C 30) :: [])) ++ N))) (fun w m => by have h := Mem.sinkAt (A := B20) m 0 0 rfl rfl; exact h) ?_
  have gq2 : ∀ w, More w0 Φ (B20 ++ ((some b10, blk (⟨a0.kind, (a0.rooted), a0.root, a0.status, a0.used, a0.bloom, .slice A2 a0.logs.length c3⟩ : RcptC).C 30) :: [])) w → More w0 Φ ((some b10, blk (⟨a0.kind, (a0.rooted), a0.root, a0.status, a0.used, a0.bloom, .slice A2 a0.logs.length c3⟩ : RcptC).C 30) :: []) w := fun w q => More.mono (fun w m => (m).appR) q
  replace h8 := RcptRd.mono gq2 _ _ h8
  replace v4 := v4.mono gq2
  replace h6 := h6.mono (LogRd.mono gq2)
  replace hH11 := hH11.mono gq2
  replace hg2 := hg2.mono gq2
  replace h22 := ItRd.mono (Ψ := (More w0 Φ (B20 ++ ((some b10, blk (⟨a0.kind, (a0.rooted), a0.root, a0.status, a0.used, a0.bloom, .slice A2 a0.logs.length c3⟩ : RcptC).C 30) :: [])))) (fun w q => More.flat q) _ _ h22
  have h36 := h22
  obtain ⟨A27, c28, A30, c31, cs33, e35, v29, v32, h34⟩ := ItRd.opn h22
  subst e35
  have m37 := v29.mx
  have m38 := v32.mx
  have m39 := v29.mx
  have m40 := v32.mx
  refine OW.alloc (l := [.bool false, .slice none 0 0, .slice none 0 0]) rfl rfl rfl (fun b41 => ?_)
  refine OW.sv (SV.storeW rfl rfl rfl (by intro u hu; simp at hu; rcases hu with rfl | rfl | rfl <;> rfl) rfl rfl rfl) ?_
  refine OW.nil (QW.then_n (CW.seq (CW.seq (CW.region (OW.rv (RV.field rfl rfl rfl rfl) rfl (OW.slot (ptr (some b10) 1) rfl (OW.rv (RV.loadH rfl hH11 (fun w m => More.of hΦ 1 m rfl) rfl rfl (RcptC.C_rooted (⟨a0.kind, (a0.rooted), a0.root, a0.status, a0.used, a0.bloom, .slice A2 a0.logs.length c3⟩ : RcptC))) rfl (OW.nil (QW.then_n ?_)))))))))
  obtain ⟨q42, hq43, hf⟩ := some_bind hf
  refine CW.cutJ (fun L' M' => ∃ p46 : Bool, ∃ l47 : List (BitVec 8), ∃ l51 : List (It), ∃ B44 : List Ent, ∃ A48 : Option Addr, ∃ c49 : Nat, ∃ cs52 : List Value, ∃ A54 : Option Addr, ∃ c55 : Nat, q42 = (p46, l47, l51) ∧ (∀ w, Mem w0 w B44 → Mem w0 w (B20 ++ ((some b10, blk (⟨a0.kind, (a0.rooted), a0.root, a0.status, a0.used, a0.bloom, .slice A2 a0.logs.length c3⟩ : RcptC).C 30) :: []))) ∧ (View (More w0 Φ B44) A48 l47.length c49 1 (u8s l47)) ∧ (Reps (ItRd (More w0 Φ B44)) cs52 l51) ∧ (View (More w0 Φ B44) A54 l51.length c55 3 cs52) ∧ L' = [(1, ptr (some b10) 0), (5, ptr (some b41) 0)] ∧ M' = ((some b41, blk [.bool (p46), .slice A48 l47.length c49, .slice A54 l51.length c55] 89) :: (B44 ++ N))) ?_ ?_
  ·rintro L58 M59 ⟨p46, l47, l51, B44, A48, c49, cs52, A54, c55, e57, hB45, v50, h53, v56, e60, e61⟩
   rw [e60, e61]
   clear e60 e61 L58 M59
   clear hq43
   rw [e57] at hf
   clear e57
   try dsimp only at hf
   have gq3 : ∀ w, More w0 Φ B44 w → More w0 Φ (B20 ++ ((some b10, blk (⟨a0.kind, (a0.rooted), a0.root, a0.status, a0.used, a0.bloom, .slice A2 a0.logs.length c3⟩ : RcptC).C 30) :: [])) w := fun w q => More.mono (fun w m => hB45 w (m)) q
   replace hH11 := hH11.mono gq3
   replace h8 := RcptRd.mono gq3 _ _ h8
   replace v4 := v4.mono gq3
   replace h6 := h6.mono (LogRd.mono gq3)
   replace hg2 := hg2.mono gq3
   have m62 := v50.mx
   have m63 := v56.mx
   refine QW.then_n (CW.seq (CW.region (OW.rv (RV.assign rfl) rfl (OW.nil (QW.then_n (CW.seq (CW.seq (CW.region (OW.rv (RV.field rfl rfl rfl rfl) rfl (OW.slot (ptr (some b10) 292) rfl (OW.rv (RV.loadH rfl hH11 (fun w m => More.of hΦ 1 m rfl) rfl rfl (RcptC.C_logs (⟨a0.kind, (a0.rooted), a0.root, a0.status, a0.used, a0.bloom, .slice A2 a0.logs.length c3⟩ : RcptC))) rfl (OW.rv (RV.len rfl rfl) rfl (OW.rv (RV.move rfl) rfl (OW.nil (QW.then_n ?_)))))))))))))))
   obtain ⟨q64, hq65, hf⟩ := some_bind hf
   refine CW.cutJ (fun L' M' => ∃ l68 : List (It), ∃ B66 : List Ent, ∃ cs69 : List Value, ∃ ob71 : Option Nat, ∃ c72 : Nat, ∃ r73 : List Value, q64 = Lp.go l68 ∧ (∀ w, Mem w0 w B66 → Mem w0 w B44) ∧ (Reps (ItRd (More w0 Φ B66)) cs69 l68) ∧ (OwnS ob71 l68.length c72 3 cs69 r73) ∧ L' = [(1, ptr (some b10) 0), (5, ptr (some b41) 0), (6, sl ob71 0 l68.length c72)] ∧ M' = ((ob71, blk (cs69 ++ r73) 89) :: (some b41, blk [.bool (p46), .slice A48 l47.length c49, .slice A54 l51.length c55] 89) :: (B66 ++ N))) ?_ ?_
   ·rintro L76 M77 ⟨l68, B66, cs69, ob71, c72, r73, e75, hB67, h70, o74, e78, e79⟩
    rw [e78, e79]
    clear e78 e79 L76 M77
    clear hq65
    rw [e75] at hf
    clear e75
    try dsimp only at hf
    have gq4 : ∀ w, More w0 Φ B66 w → More w0 Φ B44 w := fun w q => More.mono (fun w m => hB67 w (m)) q
    replace hH11 := hH11.mono gq4
    replace h8 := RcptRd.mono gq4 _ _ h8
    replace v4 := v4.mono gq4
    replace h6 := h6.mono (LogRd.mono gq4)
    replace v50 := v50.mono gq4
    replace v56 := v56.mono gq4
    replace h53 := h53.mono (ItRd.mono gq4)
    replace hg2 := hg2.mono gq4
    have m80 := o74.mx
    refine QW.then_n (CW.seq (CW.drawsU 17 mixed (by kernel_rfl) rfl (UW.rv 0 rfl (by kernel_rfl) rfl (RV.loadW rfl (List.Mem.tail _ (List.Mem.head _)) rfl rfl rfl rfl rfl) rfl (UW.rv 1 rfl (by kernel_rfl) rfl (RV.field rfl rfl rfl rfl) rfl (UW.slot (ptr (some b10) 35) rfl (UW.rv 2 rfl (by kernel_rfl) rfl (RV.loadH rfl hH11 (fun w m => More.of hΦ 2 m rfl) rfl rfl (RcptC.C_used (⟨a0.kind, (a0.rooted), a0.root, a0.status, a0.used, a0.bloom, .slice A2 a0.logs.length c3⟩ : RcptC))) rfl (UW.rv 4 rfl (by kernel_rfl) rfl (RV.field rfl rfl rfl rfl) rfl (UW.slot (ptr (some b10) 36) rfl (UW.rv 5 rfl (by kernel_rfl) rfl (RV.arr_all rfl rfl rfl) rfl ?_)))))))))
    refine UW.slot (.slice (some ⟨b10, 36, none⟩) a0.bloom.toList.length 256) (by rw [Vector.length_toList]; try rfl) ?_
    have v81 : View (More w0 Φ B66) (some ⟨b10, 36, none⟩) a0.bloom.toList.length 256 1 (u8s a0.bloom.toList) := Held.part hH11 (RcptC.C_bloom_all (⟨a0.kind, (a0.rooted), a0.root, a0.status, a0.used, a0.bloom, .slice A2 a0.logs.length c3⟩ : RcptC)) (by decide)
    refine UW.rv 7 rfl (by kernel_rfl) rfl (RV.move rfl) rfl ?_
    obtain ⟨x83, hx82, hf⟩ := some_bind hf
    refine UW.callG 3 rfl (by kernel_rfl) rfl Tryd.call59 rfl (fun N' hN' => rlp_Small_does w0 (More w0 Φ B66) N' (fun w m => More.of hΦ 2 (hN' w m) rfl) a0.used x83 hx82) rfl ?_
    rintro L87 M88 ⟨B84, cs85, h86, e89, e90⟩
    rw [e89, e90]
    clear e89 e90 L87 M88
    refine UW.mem (M' := ((ob71, blk (cs69 ++ r73) 89) :: (some b41, blk [.bool (p46), .slice A48 l47.length c49, .slice A54 l51.length c55] 89) :: ((B84 ++ B66) ++ N))) (fun w m => by have h := Mem.sinkAt (A := B84) m 0 2 rfl rfl; exact h) ?_
    have gq5 : ∀ w, More w0 Φ (B84 ++ B66) w → More w0 Φ B66 w := fun w q => More.mono (fun w m => (m).appR) q
    replace hH11 := hH11.mono gq5
    replace h8 := RcptRd.mono gq5 _ _ h8
    replace v4 := v4.mono gq5
    replace h6 := h6.mono (LogRd.mono gq5)
    replace h70 := h70.mono (ItRd.mono gq5)
    replace v50 := v50.mono gq5
    replace v56 := v56.mono gq5
    replace h53 := h53.mono (ItRd.mono gq5)
    replace v81 := v81.mono gq5
    replace hg2 := hg2.mono gq5
    replace h86 := ItRd.mono (Ψ := (More w0 Φ (B84 ++ B66))) (fun w q => More.flat q) _ _ h86
    have h100 := h86
    obtain ⟨A91, c92, A94, c95, cs97, e99, v93, v96, h98⟩ := ItRd.opn h86
    subst e99
    have m101 := v93.mx
    have m102 := v96.mx
    have m103 := v93.mx
    have m104 := v96.mx
    obtain ⟨x106, hx105, hf⟩ := some_bind hf
    refine UW.callG 6 rfl (by kernel_rfl) rfl Tryd.call60 rfl (fun N' hN' => rlp_Text_does w0 (More w0 Φ (B84 ++ B66)) N' (fun w m => More.of hΦ 2 (hN' w m) rfl) (some ⟨b10, 36, none⟩) 256 a0.bloom.toList x106 v81 hx105) rfl ?_
    rintro L110 M111 ⟨B107, cs108, h109, e112, e113⟩
    rw [e112, e113]
    clear e112 e113 L110 M111
    refine UW.mem (M' := ((ob71, blk (cs69 ++ r73) 89) :: (some b41, blk [.bool (p46), .slice A48 l47.length c49, .slice A54 l51.length c55] 89) :: ((B107 ++ (B84 ++ B66)) ++ N))) (fun w m => by have h := Mem.sinkAt (A := B107) m 0 2 rfl rfl; exact h) ?_
    have gq6 : ∀ w, More w0 Φ (B107 ++ (B84 ++ B66)) w → More w0 Φ (B84 ++ B66) w := fun w q => More.mono (fun w m => (m).appR) q
    replace hH11 := hH11.mono gq6
    replace h8 := RcptRd.mono gq6 _ _ h8
    replace v4 := v4.mono gq6
    replace h6 := h6.mono (LogRd.mono gq6)
    replace h70 := h70.mono (ItRd.mono gq6)
    replace v50 := v50.mono gq6
    replace v56 := v56.mono gq6
    replace h53 := h53.mono (ItRd.mono gq6)
    replace v81 := v81.mono gq6
    replace h100 := ItRd.mono gq6 _ _ h100
    replace v93 := v93.mono gq6
    replace v96 := v96.mono gq6
    replace h98 := h98.mono (ItRd.mono gq6)
    replace hg2 := hg2.mono gq6
    replace h109 := ItRd.mono (Ψ := (More w0 Φ (B107 ++ (B84 ++ B66)))) (fun w q => More.flat q) _ _ h109
    have h123 := h109
    obtain ⟨A114, c115, A117, c118, cs120, e122, v116, v119, h121⟩ := ItRd.opn h109
    subst e122
    have m124 := v116.mx
    have m125 := v119.mx
    have m126 := v116.mx
    have m127 := v119.mx
    refine UW.mem (M' := (some b41, blk [.bool (p46), .slice A48 l47.length c49, .slice A54 l51.length c55] 89) :: (((ob71, blk (cs69 ++ r73) 89) :: (B107 ++ (B84 ++ B66))) ++ N)) (fun w m => m.pick [1, 0] 2 rfl rfl) ?_
    have gq7 : ∀ w, More w0 Φ ((ob71, blk (cs69 ++ r73) 89) :: (B107 ++ (B84 ++ B66))) w → More w0 Φ (B107 ++ (B84 ++ B66)) w := fun w q => More.mono (fun w m => (m).tail) q
    replace hH11 := hH11.mono gq7
    replace h8 := RcptRd.mono gq7 _ _ h8
    replace v4 := v4.mono gq7
    replace h6 := h6.mono (LogRd.mono gq7)
    replace h70 := h70.mono (ItRd.mono gq7)
    replace v50 := v50.mono gq7
    replace v56 := v56.mono gq7
    replace h53 := h53.mono (ItRd.mono gq7)
    replace v81 := v81.mono gq7
    replace h100 := ItRd.mono gq7 _ _ h100
    replace v93 := v93.mono gq7
    replace v96 := v96.mono gq7
    replace h98 := h98.mono (ItRd.mono gq7)
    replace h123 := ItRd.mono gq7 _ _ h123
    replace v116 := v116.mono gq7
    replace v119 := v119.mono gq7
    replace h121 := h121.mono (ItRd.mono gq7)
    replace hg2 := hg2.mono gq7
    have v128 : View (More w0 Φ ((ob71, blk (cs69 ++ r73) 89) :: (B107 ++ (B84 ++ B66)))) ((ob71).map fun k => ⟨k, 0, none⟩) l68.length c72 3 cs69 := o74.view (by decide) (fun w q => q.2.sublist (List.singleton_sublist.2 (List.mem_cons_self ..)))
    obtain ⟨x130, hx129, hf⟩ := some_bind hf
    refine UW.callG 8 rfl (by kernel_rfl) rfl Tryd.call63 rfl (fun N' hN' => rlp_List_does w0 (More w0 Φ ((ob71, blk (cs69 ++ r73) 89) :: (B107 ++ (B84 ++ B66)))) N' (fun w m => More.of hΦ 1 (hN' w m) rfl) ((ob71).map fun k => ⟨k, 0, none⟩) c72 cs69 l68 x130 v128 h70 hx129) rfl ?_
    rintro L134 M135 ⟨B131, cs132, h133, e136, e137⟩
    rw [e136, e137]
    clear e136 e137 L134 M135
    refine UW.mem (M' := ((some b41, blk [.bool (p46), .slice A48 l47.length c49, .slice A54 l51.length c55] 89) :: ((B131 ++ ((ob71, blk (cs69 ++ r73) 89) :: (B107 ++ (B84 ++ B66)))) ++ N))) (fun w m => by have h := Mem.sinkAt (A := B131) m 0 1 rfl rfl; exact h) ?_
    have gq8 : ∀ w, More w0 Φ (B131 ++ ((ob71, blk (cs69 ++ r73) 89) :: (B107 ++ (B84 ++ B66)))) w → More w0 Φ ((ob71, blk (cs69 ++ r73) 89) :: (B107 ++ (B84 ++ B66))) w := fun w q => More.mono (fun w m => (m).appR) q
    replace hH11 := hH11.mono gq8
    replace h8 := RcptRd.mono gq8 _ _ h8
    replace v4 := v4.mono gq8
    replace h6 := h6.mono (LogRd.mono gq8)
    replace v128 := v128.mono gq8
    replace h70 := h70.mono (ItRd.mono gq8)
    replace v50 := v50.mono gq8
    replace v56 := v56.mono gq8
    replace h53 := h53.mono (ItRd.mono gq8)
    replace v81 := v81.mono gq8
    replace h100 := ItRd.mono gq8 _ _ h100
    replace v93 := v93.mono gq8
    replace v96 := v96.mono gq8
    replace h98 := h98.mono (ItRd.mono gq8)
    replace h123 := ItRd.mono gq8 _ _ h123
    replace v116 := v116.mono gq8
    replace v119 := v119.mono gq8
    replace h121 := h121.mono (ItRd.mono gq8)
    replace hg2 := hg2.mono gq8
    replace h133 := ItRd.mono (Ψ := (More w0 Φ (B131 ++ ((ob71, blk (cs69 ++ r73) 89) :: (B107 ++ (B84 ++ B66)))))) (fun w q => More.flat q) _ _ h133
    have h147 := h133
    obtain ⟨A138, c139, A141, c142, cs144, e146, v140, v143, h145⟩ := ItRd.opn h133
    subst e146
    have m148 := v140.mx
    have m149 := v143.mx
    have m150 := v140.mx
    have m151 := v143.mx
    refine UW.new 9 rfl (by kernel_rfl) rfl (NV.bsA rfl rfl (by intro x hx; simp at hx; rcases hx with rfl | rfl | rfl | rfl <;> exact rfl) rfl rfl rfl (by decide) (by decide) rfl) rfl (fun b152 => ?_)
    have h155 : Reps (ItRd (More w0 Φ (B131 ++ ((ob71, blk (cs69 ++ r73) 89) :: (B107 ++ (B84 ++ B66)))))) (([.bool (p46), .slice A48 l47.length c49, .slice A54 l51.length c55] : List Value) ++ ([.bool (x83.list), .slice A91 x83.data.length c92, .slice A94 x83.items.length c95] : List Value) ++ ([.bool (x106.list), .slice A114 x106.data.length c115, .slice A117 x106.items.length c118] : List Value) ++ ([.bool (x130.list), .slice A138 x130.data.length c139, .slice A141 x130.items.length c142] : List Value)) [(It.mk (p46) l47 l51), x83, x106, x130] := by simpa using (show Reps (ItRd (More w0 Φ (B131 ++ ((ob71, blk (cs69 ++ r73) 89) :: (B107 ++ (B84 ++ B66)))))) _ [(It.mk (p46) l47 l51), x83, x106, x130] from (.cons (ItRd.mk v50 v56 h53) (.cons h100 (.cons h123 (.cons h147 .nil)))))
    refine UW.mem (M' := (((some b152), blk ((([.bool (p46), .slice A48 l47.length c49, .slice A54 l51.length c55] : List Value) ++ ([.bool (x83.list), .slice A91 x83.data.length c92, .slice A94 x83.items.length c95] : List Value) ++ ([.bool (x106.list), .slice A114 x106.data.length c115, .slice A117 x106.items.length c118] : List Value) ++ ([.bool (x130.list), .slice A138 x130.data.length c139, .slice A141 x130.items.length c142] : List Value)) ++ []) 89) :: (some b41, blk [.bool (p46), .slice A48 l47.length c49, .slice A54 l51.length c55] 89) :: ((B131 ++ ((ob71, blk (cs69 ++ r73) 89) :: (B107 ++ (B84 ++ B66)))) ++ N))) (fun w m => m) ?_
    have o153 : OwnS (some b152) ([(It.mk (p46) l47 l51), x83, x106, x130] : List (It)).length 4 3 (([.bool (p46), .slice A48 l47.length c49, .slice A54 l51.length c55] : List Value) ++ ([.bool (x83.list), .slice A91 x83.data.length c92, .slice A94 x83.items.length c95] : List Value) ++ ([.bool (x106.list), .slice A114 x106.data.length c115, .slice A117 x106.items.length c118] : List Value) ++ ([.bool (x130.list), .slice A138 x130.data.length c139, .slice A141 x130.items.length c142] : List Value)) [] := ⟨by simp [ItRd], by simp [ItRd], (fun h => nomatch h), by simp⟩
    have mx_o153 := o153.mx
    refine UW.slot (sl (some b152) 0 ([(It.mk (p46) l47 l51), x83, x106, x130] : List (It)).length 4) (rfl) (UW.mem (M' := (some b41, blk [.bool (p46), .slice A48 l47.length c49, .slice A54 l51.length c55] 89) :: ((((some b152), blk ((([.bool (p46), .slice A48 l47.length c49, .slice A54 l51.length c55] : List Value) ++ ([.bool (x83.list), .slice A91 x83.data.length c92, .slice A94 x83.items.length c95] : List Value) ++ ([.bool (x106.list), .slice A114 x106.data.length c115, .slice A117 x106.items.length c118] : List Value) ++ ([.bool (x130.list), .slice A138 x130.data.length c139, .slice A141 x130.items.length c142] : List Value)) ++ []) 89) :: (B131 ++ ((ob71, blk (cs69 ++ r73) 89) :: (B107 ++ (B84 ++ B66))))) ++ N)) (fun w m => m.pick [1, 0] 2 rfl rfl) ?_)
    have gq9 : ∀ w, More w0 Φ (((some b152), blk ((([.bool (p46), .slice A48 l47.length c49, .slice A54 l51.length c55] : List Value) ++ ([.bool (x83.list), .slice A91 x83.data.length c92, .slice A94 x83.items.length c95] : List Value) ++ ([.bool (x106.list), .slice A114 x106.data.length c115, .slice A117 x106.items.length c118] : List Value) ++ ([.bool (x130.list), .slice A138 x130.data.length c139, .slice A141 x130.items.length c142] : List Value)) ++ []) 89) :: (B131 ++ ((ob71, blk (cs69 ++ r73) 89) :: (B107 ++ (B84 ++ B66))))) w → More w0 Φ (B131 ++ ((ob71, blk (cs69 ++ r73) 89) :: (B107 ++ (B84 ++ B66)))) w := fun w q => More.mono (fun w m => (m).tail) q
    replace hH11 := hH11.mono gq9
    replace h8 := RcptRd.mono gq9 _ _ h8
    replace v4 := v4.mono gq9
    replace h6 := h6.mono (LogRd.mono gq9)
    replace v128 := v128.mono gq9
    replace h70 := h70.mono (ItRd.mono gq9)
    replace v50 := v50.mono gq9
    replace v56 := v56.mono gq9
    replace h53 := h53.mono (ItRd.mono gq9)
    replace v81 := v81.mono gq9
    replace h100 := ItRd.mono gq9 _ _ h100
    replace v93 := v93.mono gq9
    replace v96 := v96.mono gq9
    replace h98 := h98.mono (ItRd.mono gq9)
    replace h123 := ItRd.mono gq9 _ _ h123
    replace v116 := v116.mono gq9
    replace v119 := v119.mono gq9
    replace h121 := h121.mono (ItRd.mono gq9)
    replace h147 := ItRd.mono gq9 _ _ h147
    replace v140 := v140.mono gq9
    replace v143 := v143.mono gq9
    replace h145 := h145.mono (ItRd.mono gq9)
    replace h155 := h155.mono (ItRd.mono gq9)
    replace hg2 := hg2.mono gq9
    have v156 : View (More w0 Φ (((some b152), blk ((([.bool (p46), .slice A48 l47.length c49, .slice A54 l51.length c55] : List Value) ++ ([.bool (x83.list), .slice A91 x83.data.length c92, .slice A94 x83.items.length c95] : List Value) ++ ([.bool (x106.list), .slice A114 x106.data.length c115, .slice A117 x106.items.length c118] : List Value) ++ ([.bool (x130.list), .slice A138 x130.data.length c139, .slice A141 x130.items.length c142] : List Value)) ++ []) 89) :: (B131 ++ ((ob71, blk (cs69 ++ r73) 89) :: (B107 ++ (B84 ++ B66)))))) (((some b152)).map fun k => ⟨k, 0, none⟩) ([(It.mk (p46) l47 l51), x83, x106, x130] : List (It)).length 4 3 (([.bool (p46), .slice A48 l47.length c49, .slice A54 l51.length c55] : List Value) ++ ([.bool (x83.list), .slice A91 x83.data.length c92, .slice A94 x83.items.length c95] : List Value) ++ ([.bool (x106.list), .slice A114 x106.data.length c115, .slice A117 x106.items.length c118] : List Value) ++ ([.bool (x130.list), .slice A138 x130.data.length c139, .slice A141 x130.items.length c142] : List Value)) := o153.view (by decide) (fun w q => q.2.sublist (List.singleton_sublist.2 (List.mem_cons_self ..)))
    obtain ⟨x158, hx157, hf⟩ := some_bind hf
    refine UW.callG 10 rfl (by kernel_rfl) rfl Tryd.call63 rfl (fun N' hN' => rlp_List_does w0 (More w0 Φ (((some b152), blk ((([.bool (p46), .slice A48 l47.length c49, .slice A54 l51.length c55] : List Value) ++ ([.bool (x83.list), .slice A91 x83.data.length c92, .slice A94 x83.items.length c95] : List Value) ++ ([.bool (x106.list), .slice A114 x106.data.length c115, .slice A117 x106.items.length c118] : List Value) ++ ([.bool (x130.list), .slice A138 x130.data.length c139, .slice A141 x130.items.length c142] : List Value)) ++ []) 89) :: (B131 ++ ((ob71, blk (cs69 ++ r73) 89) :: (B107 ++ (B84 ++ B66)))))) N' (fun w m => More.of hΦ 1 (hN' w m) rfl) (((some b152)).map fun k => ⟨k, 0, none⟩) 4 (([.bool (p46), .slice A48 l47.length c49, .slice A54 l51.length c55] : List Value) ++ ([.bool (x83.list), .slice A91 x83.data.length c92, .slice A94 x83.items.length c95] : List Value) ++ ([.bool (x106.list), .slice A114 x106.data.length c115, .slice A117 x106.items.length c118] : List Value) ++ ([.bool (x130.list), .slice A138 x130.data.length c139, .slice A141 x130.items.length c142] : List Value)) ([(It.mk (p46) l47 l51), x83, x106, x130] : List (It)) x158 v156 h155 hx157) rfl ?_
    rintro L162 M163 ⟨B159, cs160, h161, e164, e165⟩
    rw [e164, e165]
    clear e164 e165 L162 M163
    refine UW.mem (M' := ((some b41, blk [.bool (p46), .slice A48 l47.length c49, .slice A54 l51.length c55] 89) :: ((B159 ++ (((some b152), blk ((([.bool (p46), .slice A48 l47.length c49, .slice A54 l51.length c55] : List Value) ++ ([.bool (x83.list), .slice A91 x83.data.length c92, .slice A94 x83.items.length c95] : List Value) ++ ([.bool (x106.list), .slice A114 x106.data.length c115, .slice A117 x106.items.length c118] : List Value) ++ ([.bool (x130.list), .slice A138 x130.data.length c139, .slice A141 x130.items.length c142] : List Value)) ++ []) 89) :: (B131 ++ ((ob71, blk (cs69 ++ r73) 89) :: (B107 ++ (B84 ++ B66)))))) ++ N))) (fun w m => by have h := Mem.sinkAt (A := B159) m 0 1 rfl rfl; exact h) ?_
    have gq10 : ∀ w, More w0 Φ (B159 ++ (((some b152), blk ((([.bool (p46), .slice A48 l47.length c49, .slice A54 l51.length c55] : List Value) ++ ([.bool (x83.list), .slice A91 x83.data.length c92, .slice A94 x83.items.length c95] : List Value) ++ ([.bool (x106.list), .slice A114 x106.data.length c115, .slice A117 x106.items.length c118] : List Value) ++ ([.bool (x130.list), .slice A138 x130.data.length c139, .slice A141 x130.items.length c142] : List Value)) ++ []) 89) :: (B131 ++ ((ob71, blk (cs69 ++ r73) 89) :: (B107 ++ (B84 ++ B66)))))) w → More w0 Φ (((some b152), blk ((([.bool (p46), .slice A48 l47.length c49, .slice A54 l51.length c55] : List Value) ++ ([.bool (x83.list), .slice A91 x83.data.length c92, .slice A94 x83.items.length c95] : List Value) ++ ([.bool (x106.list), .slice A114 x106.data.length c115, .slice A117 x106.items.length c118] : List Value) ++ ([.bool (x130.list), .slice A138 x130.data.length c139, .slice A141 x130.items.length c142] : List Value)) ++ []) 89) :: (B131 ++ ((ob71, blk (cs69 ++ r73) 89) :: (B107 ++ (B84 ++ B66))))) w := fun w q => More.mono (fun w m => (m).appR) q
    replace hH11 := hH11.mono gq10
    replace h8 := RcptRd.mono gq10 _ _ h8
    replace v4 := v4.mono gq10
    replace h6 := h6.mono (LogRd.mono gq10)
    replace v128 := v128.mono gq10
    replace h70 := h70.mono (ItRd.mono gq10)
    replace v50 := v50.mono gq10
    replace v56 := v56.mono gq10
    replace h53 := h53.mono (ItRd.mono gq10)
    replace v81 := v81.mono gq10
    replace h100 := ItRd.mono gq10 _ _ h100
    replace v93 := v93.mono gq10
    replace v96 := v96.mono gq10
    replace h98 := h98.mono (ItRd.mono gq10)
    replace h123 := ItRd.mono gq10 _ _ h123
    replace v116 := v116.mono gq10
    replace v119 := v119.mono gq10
    replace h121 := h121.mono (ItRd.mono gq10)
    replace h147 := ItRd.mono gq10 _ _ h147
    replace v140 := v140.mono gq10
    replace v143 := v143.mono gq10
    replace h145 := h145.mono (ItRd.mono gq10)
    replace v156 := v156.mono gq10
    replace h155 := h155.mono (ItRd.mono gq10)
    replace hg2 := hg2.mono gq10
    replace h161 := ItRd.mono (Ψ := (More w0 Φ (B159 ++ (((some b152), blk ((([.bool (p46), .slice A48 l47.length c49, .slice A54 l51.length c55] : List Value) ++ ([.bool (x83.list), .slice A91 x83.data.length c92, .slice A94 x83.items.length c95] : List Value) ++ ([.bool (x106.list), .slice A114 x106.data.length c115, .slice A117 x106.items.length c118] : List Value) ++ ([.bool (x130.list), .slice A138 x130.data.length c139, .slice A141 x130.items.length c142] : List Value)) ++ []) 89) :: (B131 ++ ((ob71, blk (cs69 ++ r73) 89) :: (B107 ++ (B84 ++ B66)))))))) (fun w q => More.flat q) _ _ h161
    have h175 := h161
    obtain ⟨A166, c167, A169, c170, cs172, e174, v168, v171, h173⟩ := ItRd.opn h161
    subst e174
    have m176 := v168.mx
    have m177 := v171.mx
    have m178 := v168.mx
    have m179 := v171.mx
    obtain ⟨⟨x181, x182⟩, hx180, hf⟩ := some_bind hf
    try dsimp only at hf
    refine UW.callG 11 rfl (by kernel_rfl) rfl Tryd.call62 rfl (fun N' hN' => rlp_Encode_does w0 (More w0 Φ (B159 ++ (((some b152), blk ((([.bool (p46), .slice A48 l47.length c49, .slice A54 l51.length c55] : List Value) ++ ([.bool (x83.list), .slice A91 x83.data.length c92, .slice A94 x83.items.length c95] : List Value) ++ ([.bool (x106.list), .slice A114 x106.data.length c115, .slice A117 x106.items.length c118] : List Value) ++ ([.bool (x130.list), .slice A138 x130.data.length c139, .slice A141 x130.items.length c142] : List Value)) ++ []) 89) :: (B131 ++ ((ob71, blk (cs69 ++ r73) 89) :: (B107 ++ (B84 ++ B66))))))) N' (fun w m => More.of hΦ 1 (hN' w m) rfl) [.bool (x158.list), .slice A166 x158.data.length c167, .slice A169 x158.items.length c170] x158 x181 x182 h175 hx180) rfl ?_
    rintro L189 M190 ⟨B183, ob184, c185, r186, o187, b188, e191, e192⟩
    rw [e191, e192]
    clear e191 e192 L189 M190
    refine UW.mem (M' := ((ob184, blk ((u8s x181) ++ r186) 5) :: (some b41, blk [.bool (p46), .slice A48 l47.length c49, .slice A54 l51.length c55] 89) :: ((B183 ++ (B159 ++ (((some b152), blk ((([.bool (p46), .slice A48 l47.length c49, .slice A54 l51.length c55] : List Value) ++ ([.bool (x83.list), .slice A91 x83.data.length c92, .slice A94 x83.items.length c95] : List Value) ++ ([.bool (x106.list), .slice A114 x106.data.length c115, .slice A117 x106.items.length c118] : List Value) ++ ([.bool (x130.list), .slice A138 x130.data.length c139, .slice A141 x130.items.length c142] : List Value)) ++ []) 89) :: (B131 ++ ((ob71, blk (cs69 ++ r73) 89) :: (B107 ++ (B84 ++ B66))))))) ++ N))) (fun w m => by have h := Mem.sinkAt (A := B183) m 1 1 rfl rfl; exact h) ?_
    have gq11 : ∀ w, More w0 Φ (B183 ++ (B159 ++ (((some b152), blk ((([.bool (p46), .slice A48 l47.length c49, .slice A54 l51.length c55] : List Value) ++ ([.bool (x83.list), .slice A91 x83.data.length c92, .slice A94 x83.items.length c95] : List Value) ++ ([.bool (x106.list), .slice A114 x106.data.length c115, .slice A117 x106.items.length c118] : List Value) ++ ([.bool (x130.list), .slice A138 x130.data.length c139, .slice A141 x130.items.length c142] : List Value)) ++ []) 89) :: (B131 ++ ((ob71, blk (cs69 ++ r73) 89) :: (B107 ++ (B84 ++ B66))))))) w → More w0 Φ (B159 ++ (((some b152), blk ((([.bool (p46), .slice A48 l47.length c49, .slice A54 l51.length c55] : List Value) ++ ([.bool (x83.list), .slice A91 x83.data.length c92, .slice A94 x83.items.length c95] : List Value) ++ ([.bool (x106.list), .slice A114 x106.data.length c115, .slice A117 x106.items.length c118] : List Value) ++ ([.bool (x130.list), .slice A138 x130.data.length c139, .slice A141 x130.items.length c142] : List Value)) ++ []) 89) :: (B131 ++ ((ob71, blk (cs69 ++ r73) 89) :: (B107 ++ (B84 ++ B66)))))) w := fun w q => More.mono (fun w m => (m).appR) q
    replace hH11 := hH11.mono gq11
    replace h8 := RcptRd.mono gq11 _ _ h8
    replace v4 := v4.mono gq11
    replace h6 := h6.mono (LogRd.mono gq11)
    replace v128 := v128.mono gq11
    replace h70 := h70.mono (ItRd.mono gq11)
    replace v50 := v50.mono gq11
    replace v56 := v56.mono gq11
    replace h53 := h53.mono (ItRd.mono gq11)
    replace v81 := v81.mono gq11
    replace h100 := ItRd.mono gq11 _ _ h100
    replace v93 := v93.mono gq11
    replace v96 := v96.mono gq11
    replace h98 := h98.mono (ItRd.mono gq11)
    replace h123 := ItRd.mono gq11 _ _ h123
    replace v116 := v116.mono gq11
    replace v119 := v119.mono gq11
    replace h121 := h121.mono (ItRd.mono gq11)
    replace h147 := ItRd.mono gq11 _ _ h147
    replace v140 := v140.mono gq11
    replace v143 := v143.mono gq11
    replace h145 := h145.mono (ItRd.mono gq11)
    replace v156 := v156.mono gq11
    replace h155 := h155.mono (ItRd.mono gq11)
    replace h175 := ItRd.mono gq11 _ _ h175
    replace v168 := v168.mono gq11
    replace v171 := v171.mono gq11
    replace h173 := h173.mono (ItRd.mono gq11)
    replace hg2 := hg2.mono gq11
    have m193 := o187.mx
    refine UW.rv 12 rfl (by kernel_rfl) rfl (RV.move rfl) rfl (UW.rv 13 rfl (by kernel_rfl) rfl (RV.extract rfl rfl) rfl (UW.slot (sl ob184 0 x181.length c185) (rfl) (UW.rv 14 rfl (by kernel_rfl) rfl (RV.extract rfl rfl) rfl (UW.slot (.int .i64 ((x182 : Nat) : Int)) (rfl) (UW.rv 15 rfl (by kernel_rfl) rfl (RV.assign rfl) rfl (UW.rv 16 rfl (by kernel_rfl) rfl (RV.assign rfl) rfl (UW.nil (by kernel_rfl) (OW.nil (QW.then_n (CW.seq (CW.seq (CW.region (OW.rv (RV.move rfl) rfl (OW.rv (RV.neq rfl rfl) rfl (OW.slot (.bool (!decide (x182 = 0))) (congrArg (fun b => Value.bool (!b)) (decide_eq_decide.2 (by omega))) (OW.nil (QW.then_n ?_)))))))))))))))))
    by_cases h194 : x182 = 0
    ·replace hf := if_t hf h194
     refine CW.is_f rfl (congrArg (fun b => !b) (decide_eq_true h194)) (CW.skip (QW.then_n (CW.seq (CW.seq (CW.region (OW.rv (RV.field rfl rfl rfl rfl) rfl (OW.slot (ptr (some b10) 0) rfl (OW.rv (RV.loadH rfl hH11 (fun w m => More.of hΦ 2 m rfl) rfl rfl (RcptC.C_kind (⟨a0.kind, (a0.rooted), a0.root, a0.status, a0.used, a0.bloom, .slice A2 a0.logs.length c3⟩ : RcptC))) rfl (OW.rv (RV.neq rfl rfl) rfl (OW.nil (QW.then_n ?_)))))))))))
     obtain ⟨q195, hq196, hf⟩ := some_bind hf
     refine CW.cutJ (fun L' M' => ∃ l197 : List (BitVec 8), ∃ ob198 : Option Nat, ∃ c199 : Nat, ∃ r200 : List Value, q195 = l197 ∧ (OwnS ob198 l197.length c199 1 (u8s l197) r200) ∧ L' = [(11, sl ob198 0 l197.length c199)] ∧ M' = ((ob198, blk ((u8s l197) ++ r200) 5) :: ((B183 ++ (B159 ++ (((some b152), blk ((([.bool (p46), .slice A48 l47.length c49, .slice A54 l51.length c55] : List Value) ++ ([.bool (x83.list), .slice A91 x83.data.length c92, .slice A94 x83.items.length c95] : List Value) ++ ([.bool (x106.list), .slice A114 x106.data.length c115, .slice A117 x106.items.length c118] : List Value) ++ ([.bool (x130.list), .slice A138 x130.data.length c139, .slice A141 x130.items.length c142] : List Value)) ++ []) 89) :: (B131 ++ ((ob71, blk (cs69 ++ r73) 89) :: (B107 ++ (B84 ++ B66))))))) ++ N))) ?_ ?_
     ·rintro L203 M204 ⟨l197, ob198, c199, r200, e202, o201, e205, e206⟩
      rw [e205, e206]
      clear e205 e206 L203 M204
      clear hq196
      rw [e202] at hf
      clear e202
      try dsimp only at hf
      have m207 := o201.mx
      refine QW.then_n (CW.seq (CW.seq (CW.region (OW.rv (RV.move rfl) rfl (OW.rv (RV.len rfl rfl) rfl (OW.rv (RV.gtr rfl rfl) rfl (OW.slot (.bool (decide (16777216 < l197.length))) (congrArg Value.bool (decide_eq_decide.2 (by omega))) (OW.nil (QW.then_n ?_)))))))))
      by_cases h208 : 16777216 < l197.length
      ·replace hf := if_t hf h208
       refine CW.is_t rfl (decide_eq_true h208) (CW.seq (CW.region (OW.rv (RV.assign rfl) rfl (OW.rv (RV.assign rfl) rfl (OW.nil (QW.then_n (CW.ret (QW.then_r (QW.mem (M' := ((none, blk ((u8s ([] : List (BitVec 8))) ++ []) 5) :: (ob198, blk ((u8s l197) ++ r200) 5) :: ((B183 ++ (B159 ++ (((some b152), blk ((([.bool (p46), .slice A48 l47.length c49, .slice A54 l51.length c55] : List Value) ++ ([.bool (x83.list), .slice A91 x83.data.length c92, .slice A94 x83.items.length c95] : List Value) ++ ([.bool (x106.list), .slice A114 x106.data.length c115, .slice A117 x106.items.length c118] : List Value) ++ ([.bool (x130.list), .slice A138 x130.data.length c139, .slice A141 x130.items.length c142] : List Value)) ++ []) 89) :: (B131 ++ ((ob71, blk (cs69 ++ r73) 89) :: (B107 ++ (B84 ++ B66))))))) ++ N))) (fun w m => m.nil_ent _) ?_)))))))))
       have er0 := Option.some.inj hf
       obtain ⟨e0, er1⟩ := Prod.mk.inj er0
       clear er0
       subst e0
       subst er1
       refine QW.retG (rs := [.tmp 2, .tmp 3]) ([sl none 0 ([] : List (BitVec 8)).length 0, .int .i64 (2 : Int)]) ((none, blk ((u8s ([] : List (BitVec 8))) ++ []) 5) :: (B183 ++ (B159 ++ (((some b152), blk ((([.bool (p46), .slice A48 l47.length c49, .slice A54 l51.length c55] : List Value) ++ ([.bool (x83.list), .slice A91 x83.data.length c92, .slice A94 x83.items.length c95] : List Value) ++ ([.bool (x106.list), .slice A114 x106.data.length c115, .slice A117 x106.items.length c118] : List Value) ++ ([.bool (x130.list), .slice A138 x130.data.length c139, .slice A141 x130.items.length c142] : List Value)) ++ []) 89) :: (B131 ++ ((ob71, blk (cs69 ++ r73) 89) :: (B107 ++ (B84 ++ B66)))))))) rfl ?_ rfl ?_ ?_ _ (.inl rfl)
       ·exact ⟨rfl, rfl, trivial⟩
       ·exact ⟨(B183 ++ (B159 ++ (((some b152), blk ((([.bool (p46), .slice A48 l47.length c49, .slice A54 l51.length c55] : List Value) ++ ([.bool (x83.list), .slice A91 x83.data.length c92, .slice A94 x83.items.length c95] : List Value) ++ ([.bool (x106.list), .slice A114 x106.data.length c115, .slice A117 x106.items.length c118] : List Value) ++ ([.bool (x130.list), .slice A138 x130.data.length c139, .slice A141 x130.items.length c142] : List Value)) ++ []) 89) :: (B131 ++ ((ob71, blk (cs69 ++ r73) 89) :: (B107 ++ (B84 ++ B66))))))), none, 0, [], OwnS.nil, (by omega), rfl, rfl⟩
       ·exact (fun w m => m.pick [0] 2 rfl rfl)
      ·replace hf := if_f hf h208
       refine CW.is_f rfl (decide_eq_false h208) (CW.skip (QW.then_n (CW.seq (CW.region (OW.rv (RV.move rfl) rfl (OW.rv (RV.assign rfl) rfl (OW.rv (RV.assign rfl) rfl (OW.nil (QW.then_n (CW.ret ?_))))))))))
       have er0 := Option.some.inj hf
       obtain ⟨e0, er1⟩ := Prod.mk.inj er0
       clear er0
       subst e0
       subst er1
       refine QW.retG (rs := [.tmp 2, .tmp 3]) ([sl ob198 0 l197.length c199, .int .i64 (0 : Int)]) ((ob198, blk ((u8s l197) ++ r200) 5) :: (B183 ++ (B159 ++ (((some b152), blk ((([.bool (p46), .slice A48 l47.length c49, .slice A54 l51.length c55] : List Value) ++ ([.bool (x83.list), .slice A91 x83.data.length c92, .slice A94 x83.items.length c95] : List Value) ++ ([.bool (x106.list), .slice A114 x106.data.length c115, .slice A117 x106.items.length c118] : List Value) ++ ([.bool (x130.list), .slice A138 x130.data.length c139, .slice A141 x130.items.length c142] : List Value)) ++ []) 89) :: (B131 ++ ((ob71, blk (cs69 ++ r73) 89) :: (B107 ++ (B84 ++ B66)))))))) rfl ?_ rfl ?_ ?_ _ (.inl rfl)
       ·exact ⟨rfl, rfl, trivial⟩
       ·exact ⟨(B183 ++ (B159 ++ (((some b152), blk ((([.bool (p46), .slice A48 l47.length c49, .slice A54 l51.length c55] : List Value) ++ ([.bool (x83.list), .slice A91 x83.data.length c92, .slice A94 x83.items.length c95] : List Value) ++ ([.bool (x106.list), .slice A114 x106.data.length c115, .slice A117 x106.items.length c118] : List Value) ++ ([.bool (x130.list), .slice A138 x130.data.length c139, .slice A141 x130.items.length c142] : List Value)) ++ []) 89) :: (B131 ++ ((ob71, blk (cs69 ++ r73) 89) :: (B107 ++ (B84 ++ B66))))))), ob198, c199, r200, o201, (by omega), rfl, rfl⟩
       ·exact (fun w m => m.pick [0] 1 rfl rfl)
     ·skip
      by_cases h209 : a0.kind = (0 : Int)
      ·replace hq196 := if_t hq196 h209
       refine CW.is_f rfl (congrArg (fun b => !b) (decide_eq_true h209)) (CW.skip ?_)
       exact QW.join ⟨x181, ob184, c185, r186, (Option.some.inj hq196).symm, o187, rfl, rfl⟩ ⟨rfl, trivial⟩ (fun w m => m.pick [0] 2 rfl rfl)
      ·replace hq196 := if_f hq196 h209
       refine CW.is_t rfl (congrArg (fun b => !b) (decide_eq_false h209)) (CW.region (OW.rv (RV.field rfl rfl rfl rfl) rfl (OW.slot (ptr (some b10) 0) rfl (OW.rv (RV.loadH rfl hH11 (fun w m => More.of hΦ 2 m rfl) rfl rfl (RcptC.C_kind (⟨a0.kind, (a0.rooted), a0.root, a0.status, a0.used, a0.bloom, .slice A2 a0.logs.length c3⟩ : RcptC))) rfl (OW.rv (RV.conv_i8 rfl rfl rfl) rfl (OW.ofN (NV.bs1 rfl rfl rfl rfl rfl rfl) rfl (fun b210 => (OW.mem (M' := (((some b210), blk ((u8s ([(BitVec.ofInt 8 a0.kind)] : List (BitVec 8))) ++ []) 5) :: (ob184, blk ((u8s x181) ++ r186) 5) :: (some b41, blk [.bool (p46), .slice A48 l47.length c49, .slice A54 l51.length c55] 89) :: ((B183 ++ (B159 ++ (((some b152), blk ((([.bool (p46), .slice A48 l47.length c49, .slice A54 l51.length c55] : List Value) ++ ([.bool (x83.list), .slice A91 x83.data.length c92, .slice A94 x83.items.length c95] : List Value) ++ ([.bool (x106.list), .slice A114 x106.data.length c115, .slice A117 x106.items.length c118] : List Value) ++ ([.bool (x130.list), .slice A138 x130.data.length c139, .slice A141 x130.items.length c142] : List Value)) ++ []) 89) :: (B131 ++ ((ob71, blk (cs69 ++ r73) 89) :: (B107 ++ (B84 ++ B66))))))) ++ N))) (fun w m => by first | exact m | simpa [u8s] using m) ?_))))))))
       have o211 : OwnS (some b210) ([(BitVec.ofInt 8 a0.kind)] : List (BitVec 8)).length 1 1 (u8s ([(BitVec.ofInt 8 a0.kind)] : List (BitVec 8))) [] := ⟨by simp [u8s], by simp [u8s], (fun h => nomatch h), by simp⟩
       have mx_o211 := o211.mx
       refine OW.slot (sl (some b210) 0 ([(BitVec.ofInt 8 a0.kind)] : List (BitVec 8)).length 1) (rfl) (OW.rv (RV.move rfl) rfl ?_)
       obtain ⟨g212, hq196⟩ := some_if hq196
       refine OW.appendOwn (s := 1) rfl rfl rfl rfl rfl rfl o211 (fun w m => m.rd0 (List.Mem.tail _ (List.Mem.head _)) (fun e => o187.nilc (by decide) e)) o187.n (u8s_one _) (o187.zeroO (by decide)) (by decide) (by decide) (by first | omega | (simp only [i5, List.length_nil]; omega)) rfl rfl ((([(BitVec.ofInt 8 a0.kind)] : List (BitVec 8)) ++ x181).length) (u8s (([(BitVec.ofInt 8 a0.kind)] : List (BitVec 8)) ++ x181)) (List.length_append ..).symm (u8s_app _ _) (fun ob213 r214 c215 o216 => ?_)
       have m217 := o216.mx
       refine OW.rv (RV.assign rfl) rfl (OW.nil ?_)
       exact QW.join ⟨(([(BitVec.ofInt 8 a0.kind)] : List (BitVec 8)) ++ x181), ob213, c215, r214, (Option.some.inj hq196).symm, o216, rfl, rfl⟩ ⟨rfl, trivial⟩ (fun w m => m.pick [0] 3 rfl rfl)
    ·replace hf := if_f hf h194
     refine CW.is_t rfl (congrArg (fun b => !b) (decide_eq_false h194)) (CW.seq (CW.region (OW.rv (RV.move rfl) rfl (OW.rv (RV.assign rfl) rfl (OW.rv (RV.assign rfl) rfl (OW.nil (QW.then_n (CW.ret (QW.then_r (QW.mem (M' := ((none, blk ((u8s ([] : List (BitVec 8))) ++ []) 5) :: (ob184, blk ((u8s x181) ++ r186) 5) :: (some b41, blk [.bool (p46), .slice A48 l47.length c49, .slice A54 l51.length c55] 89) :: ((B183 ++ (B159 ++ (((some b152), blk ((([.bool (p46), .slice A48 l47.length c49, .slice A54 l51.length c55] : List Value) ++ ([.bool (x83.list), .slice A91 x83.data.length c92, .slice A94 x83.items.length c95] : List Value) ++ ([.bool (x106.list), .slice A114 x106.data.length c115, .slice A117 x106.items.length c118] : List Value) ++ ([.bool (x130.list), .slice A138 x130.data.length c139, .slice A141 x130.items.length c142] : List Value)) ++ []) 89) :: (B131 ++ ((ob71, blk (cs69 ++ r73) 89) :: (B107 ++ (B84 ++ B66))))))) ++ N))) (fun w m => m.nil_ent _) ?_))))))))))
     have er0 := Option.some.inj hf
     obtain ⟨e0, er1⟩ := Prod.mk.inj er0
     clear er0
     subst e0
     subst er1
     refine QW.retG (rs := [.tmp 2, .tmp 3]) ([sl none 0 ([] : List (BitVec 8)).length 0, .int .i64 ((x182 : Nat) : Int)]) ((none, blk ((u8s ([] : List (BitVec 8))) ++ []) 5) :: (B183 ++ (B159 ++ (((some b152), blk ((([.bool (p46), .slice A48 l47.length c49, .slice A54 l51.length c55] : List Value) ++ ([.bool (x83.list), .slice A91 x83.data.length c92, .slice A94 x83.items.length c95] : List Value) ++ ([.bool (x106.list), .slice A114 x106.data.length c115, .slice A117 x106.items.length c118] : List Value) ++ ([.bool (x130.list), .slice A138 x130.data.length c139, .slice A141 x130.items.length c142] : List Value)) ++ []) 89) :: (B131 ++ ((ob71, blk (cs69 ++ r73) 89) :: (B107 ++ (B84 ++ B66)))))))) rfl ?_ rfl ?_ ?_ _ (.inl rfl)
     ·exact ⟨rfl, rfl, trivial⟩
     ·exact ⟨(B183 ++ (B159 ++ (((some b152), blk ((([.bool (p46), .slice A48 l47.length c49, .slice A54 l51.length c55] : List Value) ++ ([.bool (x83.list), .slice A91 x83.data.length c92, .slice A94 x83.items.length c95] : List Value) ++ ([.bool (x106.list), .slice A114 x106.data.length c115, .slice A117 x106.items.length c118] : List Value) ++ ([.bool (x130.list), .slice A138 x130.data.length c139, .slice A141 x130.items.length c142] : List Value)) ++ []) 89) :: (B131 ++ ((ob71, blk (cs69 ++ r73) 89) :: (B107 ++ (B84 ++ B66))))))), none, 0, [], OwnS.nil, (by omega), rfl, rfl⟩
     ·exact (fun w m => m.pick [0] 3 rfl rfl)
   ·skip
    refine CW.block (CW.mem (M' := ((none, blk ([] ++ []) 89) :: (some b41, blk [.bool (p46), .slice A48 l47.length c49, .slice A54 l51.length c55] 89) :: (B44 ++ N))) (fun w m => m.nil_ent _) (CW.loopJ (fun k L' M' => ∃ l220 : List (It), ∃ n227 : Nat, ∃ B218 : List Ent, ∃ cs221 : List Value, ∃ ob223 : Option Nat, ∃ c224 : Nat, ∃ r225 : List Value, (receipt_Encode.l1 a0 k l220 n227) = some q64 ∧ (∀ w, Mem w0 w B218 → Mem w0 w B44) ∧ (Reps (ItRd (More w0 Φ B218)) cs221 l220) ∧ (OwnS ob223 l220.length c224 3 cs221 r225) ∧ (n227 ≤ 9223372036854775807) ∧ L' = [(1, ptr (some b10) 0), (5, ptr (some b41) 0), (6, sl ob223 0 l220.length c224), (27, .slice A2 a0.logs.length c3), (28, .int .i64 ((a0.logs.length : Nat) : Int)), (29, .int .i64 ((n227 : Nat) : Int))] ∧ M' = ((ob223, blk (cs221 ++ r225) 89) :: (some b41, blk [.bool (p46), .slice A48 l47.length c49, .slice A54 l51.length c55] 89) :: (B218 ++ N))) (k0 := (a0.logs.length - 0 + 2)) ⟨([] : List (It)), 0, B44, [], none, 0, [], hq65, (fun w m => m), Reps.nil, OwnS.nil, (by omega), rfl, rfl⟩ ⟨rfl, rfl, rfl, rfl, rfl, rfl, trivial⟩ (fun w m => m.pick [0, 1] 2 rfl rfl) ?_))
    clear hq65
    rintro k229 L232 M233 ⟨l220, n227, B218, cs221, ob223, c224, r225, hl230, hB219, h222, o226, b228, e234, e235⟩
    rw [e234, e235]
    clear e234 e235 L232 M233
    rcases k229 with _ | k229
    ·rw [receipt_Encode.l1] at hl230; cases hl230
    rw [receipt_Encode.l1] at hl230
    have gq12 : ∀ w, More w0 Φ B218 w → More w0 Φ B44 w := fun w q => More.mono (fun w m => hB219 w (m)) q
    replace hH11 := hH11.mono gq12
    replace h8 := RcptRd.mono gq12 _ _ h8
    replace v4 := v4.mono gq12
    replace h6 := h6.mono (LogRd.mono gq12)
    replace v50 := v50.mono gq12
    replace v56 := v56.mono gq12
    replace h53 := h53.mono (ItRd.mono gq12)
    replace hg2 := hg2.mono gq12
    have m236 := o226.mx
    refine CW.seq (CW.region (OW.rv (RV.lss rfl rfl) rfl (OW.slot (.bool (decide (n227 < a0.logs.length))) (congrArg Value.bool (decide_eq_decide.2 (by omega))) (OW.nil (QW.then_n (CW.seq ?_))))))
    by_cases h237 : n227 < a0.logs.length
    ·replace hl230 := if_t hl230 h237
     refine CW.is_t rfl (decide_eq_true h237) (CW.skip (QW.then_n (CW.seq (CW.block (CW.seq (CW.region ?_))))))
     obtain ⟨x238, hx239, hl230⟩ := some_bind hl230
     have hl240 := lt_of_at hx239
     refine OW.rv (RV.idx_rs (n227) rfl rfl rfl rfl rfl (v4.isSome (by decide) hl240) (by omega)) rfl ?_
     obtain ⟨cs241, h242, h243⟩ := h6.get LogRd.len hx239
     have h253 := h242
     obtain ⟨A244, c245, cs247, A249, c250, e252, v246, h248, v251⟩ := LogRd.opn h242
     subst e252
     have m254 := v246.mx
     have m255 := v251.mx
     refine OW.rv (RV.loadAs rfl rfl rfl rfl (fun w m => v4.load (More.of hΦ 2 m rfl) h243) (LogC.C_length _)) rfl (OW.alloc (l := (⟨(Vector.replicate 20 0#8), .slice none 0 0, .slice none 0 0⟩ : LogC).C) rfl (by kernel_rfl) rfl (fun b256 => (OW.sv (SV.storeW rfl rfl rfl (LogC.C_one _ rfl rfl) rfl (LogC.C_length _) (LogC.C_length _)) (OW.nil (QW.then_n (CW.seq (CW.region (OW.rv (RV.loadW rfl (List.Mem.head _) rfl rfl rfl rfl (LogC.C_length _)) rfl ?_))))))))
     obtain ⟨⟨x258, x259⟩, hx257, hl230⟩ := some_bind hl230
     try dsimp only at hl230
     refine OW.callG Tryd.call61 rfl (receipt_LogItem_does w0 (More w0 Φ B218) ((some b256, blk (⟨x238.address, .slice A244 x238.topics.length c245, .slice A249 x238.data.length c250⟩ : LogC).C 63) :: (ob223, blk (cs221 ++ r225) 89) :: (some b41, blk [.bool (p46), .slice A48 l47.length c49, .slice A54 l51.length c55] 89) :: (B218 ++ N)) (fun w m => More.of hΦ 3 m rfl) (⟨x238.address, .slice A244 x238.topics.length c245, .slice A249 x238.data.length c250⟩ : LogC).C x238 x258 x259 h253 hx257) rfl rfl ?_
     rintro L264 M265 ⟨B260, cs261, h262, b263, e266, e267⟩
     rw [e266, e267]
     clear e266 e267 L264 M265
     refine OW.mem (M' := ((some b256, blk (⟨x238.address, .slice A244 x238.topics.length c245, .slice A249 x238.data.length c250⟩ : LogC).C 63) :: (ob223, blk (cs221 ++ r225) 89) :: (some b41, blk [.bool (p46), .slice A48 l47.length c49, .slice A54 l51.length c55] 89) :: ((B260 ++ B218) ++ N))) (fun w m => by have h := Mem.sinkAt (A := B260) m 0 3 rfl rfl; exact h) ?_
     have gq13 : ∀ w, More w0 Φ (B260 ++ B218) w → More w0 Φ B218 w := fun w q => More.mono (fun w m => (m).appR) q
     replace hH11 := hH11.mono gq13
     replace h8 := RcptRd.mono gq13 _ _ h8
     replace v4 := v4.mono gq13
     replace h6 := h6.mono (LogRd.mono gq13)
     replace h222 := h222.mono (ItRd.mono gq13)
     replace h253 := LogRd.mono gq13 _ _ h253
     replace v246 := v246.mono gq13
     replace h248 := h248.mono (Ar8Rd.mono gq13)
     replace v251 := v251.mono gq13
     replace v50 := v50.mono gq13
     replace v56 := v56.mono gq13
     replace h53 := h53.mono (ItRd.mono gq13)
     replace hg2 := hg2.mono gq13
     replace h262 := ItRd.mono (Ψ := (More w0 Φ (B260 ++ B218))) (fun w q => More.flat q) _ _ h262
     have h277 := h262
     obtain ⟨A268, c269, A271, c272, cs274, e276, v270, v273, h275⟩ := ItRd.opn h262
     subst e276
     have m278 := v270.mx
     have m279 := v273.mx
     have m280 := v270.mx
     have m281 := v273.mx
     refine OW.rv (RV.move rfl) rfl (OW.rv (RV.extract rfl rfl) rfl (OW.slot (.agg [.bool (x258.list), .slice A268 x258.data.length c269, .slice A271 x258.items.length c272].toArray) (rfl) (OW.rv (RV.extract rfl rfl) rfl (OW.slot (.int .i64 ((x259 : Nat) : Int)) (rfl) (OW.alloc (l := [.bool false, .slice none 0 0, .slice none 0 0]) rfl rfl rfl (fun b282 => ?_))))))
     refine OW.sv (SV.storeW rfl rfl rfl (by intro u hu; simp at hu; rcases hu with rfl | rfl | rfl <;> rfl) rfl rfl rfl) ?_
     refine OW.rv (RV.assign rfl) rfl (OW.nil (QW.then_n (CW.seq (CW.seq (CW.region (OW.rv (RV.move rfl) rfl (OW.rv (RV.neq rfl rfl) rfl (OW.slot (.bool (!decide (x259 = 0))) (congrArg (fun b => Value.bool (!b)) (decide_eq_decide.2 (by omega))) (OW.nil (QW.then_n ?_))))))))))
     by_cases h283 : x259 = 0
     ·replace hl230 := if_t hl230 h283
      refine CW.is_f rfl (congrArg (fun b => !b) (decide_eq_true h283)) (CW.skip (QW.then_n (CW.region (OW.rv (RV.move rfl) rfl (OW.rv (RV.loadW rfl (List.Mem.head _) rfl rfl rfl rfl rfl) rfl ?_)))))
      refine OW.ofN (NV.bsA rfl rfl (by intro x hx; simp at hx; subst hx; exact rfl) rfl rfl rfl (by decide) (by decide) rfl) rfl (fun b284 => ?_)
      have h287 : Reps (ItRd (More w0 Φ (B260 ++ B218))) (([.bool (x258.list), .slice A268 x258.data.length c269, .slice A271 x258.items.length c272] : List Value)) [x258] := Reps.one h277
      refine OW.mem (M' := (((some b284), blk ((([.bool (x258.list), .slice A268 x258.data.length c269, .slice A271 x258.items.length c272] : List Value)) ++ []) 89) :: (some b282, blk [.bool (x258.list), .slice A268 x258.data.length c269, .slice A271 x258.items.length c272] 89) :: (some b256, blk (⟨x238.address, .slice A244 x238.topics.length c245, .slice A249 x238.data.length c250⟩ : LogC).C 63) :: (ob223, blk (cs221 ++ r225) 89) :: (some b41, blk [.bool (p46), .slice A48 l47.length c49, .slice A54 l51.length c55] 89) :: ((B260 ++ B218) ++ N))) (fun w m => m) ?_
      have o285 : OwnS (some b284) ([x258] : List (It)).length 1 3 (([.bool (x258.list), .slice A268 x258.data.length c269, .slice A271 x258.items.length c272] : List Value)) [] := ⟨by simp [ItRd], by simp [ItRd], (fun h => nomatch h), by simp⟩
      have mx_o285 := o285.mx
      refine OW.slot (sl (some b284) 0 ([x258] : List (It)).length 1) (rfl) (OW.rot3 ?_)
      obtain ⟨g288, hl230⟩ := some_if hl230
      have h293 := h222.app h287
      refine OW.appendOwn (s := 3) rfl rfl rfl rfl rfl rfl o226 (fun w m => m.rd0 (List.Mem.tail _ (List.Mem.head _)) (fun e => o285.nilc (by decide) e)) o285.n (h287.cell1 ItRd.one) (o285.zeroO (by decide)) (by decide) (by decide) (by first | omega | (simp only [i89, List.length_nil]; omega)) rfl rfl ((l220 ++ ([x258] : List (It))).length) (cs221 ++ (([.bool (x258.list), .slice A268 x258.data.length c269, .slice A271 x258.items.length c272] : List Value))) (List.length_append ..).symm rfl (fun ob289 r290 c291 o292 => ?_)
      have m294 := o292.mx
      refine OW.rv (RV.assign rfl) rfl (OW.nil (QW.block_n (QW.then_n (CW.region (OW.rv (RV.add rfl rfl (by omega)) rfl (OW.slot (.int .i64 (((n227 + 1) : Nat) : Int)) (by first | rfl | (congr 1) | (congr 1; omega)) (OW.rv (RV.move rfl) rfl (OW.nil ?_))))))))
      exact QW.againJ (k' := k229) (Nat.lt_succ_self _) ⟨(l220 ++ ([x258] : List (It))), (n227 + 1), (B260 ++ B218), (cs221 ++ (([.bool (x258.list), .slice A268 x258.data.length c269, .slice A271 x258.items.length c272] : List Value))), ob289, c291, r290, hl230, (fun w m => hB219 w ((m).appR)), h293, o292, (by omega), rfl, rfl⟩ ⟨rfl, rfl, rfl, rfl, rfl, rfl, trivial⟩ (fun w m => m.pick [0, 4] 5 rfl rfl)
     ·replace hl230 := if_f hl230 h283
      refine CW.is_t rfl (congrArg (fun b => !b) (decide_eq_false h283)) (CW.seq (CW.region (OW.rv (RV.move rfl) rfl (OW.rv (RV.assign rfl) rfl (OW.rv (RV.assign rfl) rfl (OW.nil (QW.then_n (CW.ret (QW.then_r (QW.block_r (QW.then_r (QW.then_r (QW.block_r (QW.then_r ?_))))))))))))))
      have hc := Option.some.inj hl230
      subst hc
      try dsimp only at hf
      refine QW.then_r (QW.mem (M' := ((none, blk ((u8s ([] : List (BitVec 8))) ++ []) 5) :: (some b282, blk [.bool (x258.list), .slice A268 x258.data.length c269, .slice A271 x258.items.length c272] 89) :: (some b256, blk (⟨x238.address, .slice A244 x238.topics.length c245, .slice A249 x238.data.length c250⟩ : LogC).C 63) :: (ob223, blk (cs221 ++ r225) 89) :: (some b41, blk [.bool (p46), .slice A48 l47.length c49, .slice A54 l51.length c55] 89) :: ((B260 ++ B218) ++ N))) (fun w m => m.nil_ent _) ?_)
      have er0 := Option.some.inj hf
      obtain ⟨e0, er1⟩ := Prod.mk.inj er0
      clear er0
      subst e0
      subst er1
      refine QW.retG (rs := [.tmp 2, .tmp 3]) ([sl none 0 ([] : List (BitVec 8)).length 0, .int .i64 ((x259 : Nat) : Int)]) ((none, blk ((u8s ([] : List (BitVec 8))) ++ []) 5) :: (B260 ++ B218)) rfl ?_ rfl ?_ ?_ _ (.inl rfl)
      ·exact ⟨rfl, rfl, trivial⟩
      ·exact ⟨(B260 ++ B218), none, 0, [], OwnS.nil, (by omega), rfl, rfl⟩
      ·exact (fun w m => m.pick [0] 5 rfl rfl)
    ·replace hl230 := if_f hl230 h237
     refine CW.is_f rfl (decide_eq_false h237) (CW.exit (QW.then_x (QW.then_x (QW.block_xe ?_))))
     exact QW.join ⟨l220, B218, cs221, ob223, c224, r225, (Option.some.inj hl230).symm, (fun w m => hB219 w (m)), h222, o226, rfl, rfl⟩ ⟨rfl, rfl, rfl, trivial⟩ (fun w m => m.pick [0, 1] 2 rfl rfl)
  ·skip
   by_cases h295 : a0.rooted = true
   ·replace hq43 := if_t hq43 h295
    refine CW.is_t rfl (h295) (CW.region (OW.rv (RV.field rfl rfl rfl rfl) rfl (OW.slot (ptr (some b10) 2) rfl (OW.rv (RV.arr_all rfl rfl rfl) rfl ?_))))
    refine OW.slot (.slice (some ⟨b10, 2, none⟩) a0.root.toList.length 32) (by rw [Vector.length_toList]; try rfl) ?_
    have v296 : View (More w0 Φ (B20 ++ ((some b10, blk (⟨a0.kind, (a0.rooted), a0.root, a0.status, a0.used, a0.bloom, .slice A2 a0.logs.length c3⟩ : RcptC).C 30) :: []))) (some ⟨b10, 2, none⟩) a0.root.toList.length 32 1 (u8s a0.root.toList) := Held.part hH11 (RcptC.C_root_all (⟨a0.kind, (a0.rooted), a0.root, a0.status, a0.used, a0.bloom, .slice A2 a0.logs.length c3⟩ : RcptC)) (by decide)
    obtain ⟨x298, hx297, hq43⟩ := some_bind hq43
    refine OW.callG Tryd.call60 rfl (rlp_Text_does w0 (More w0 Φ (B20 ++ ((some b10, blk (⟨a0.kind, (a0.rooted), a0.root, a0.status, a0.used, a0.bloom, .slice A2 a0.logs.length c3⟩ : RcptC).C 30) :: []))) ((some b41, blk [.bool (x19.list), .slice A27 x19.data.length c28, .slice A30 x19.items.length c31] 89) :: ((B20 ++ ((some b10, blk (⟨a0.kind, (a0.rooted), a0.root, a0.status, a0.used, a0.bloom, .slice A2 a0.logs.length c3⟩ : RcptC).C 30) :: [])) ++ N)) (fun w m => More.of hΦ 1 m rfl) (some ⟨b10, 2, none⟩) 32 a0.root.toList x298 v296 hx297) rfl rfl ?_
    rintro L302 M303 ⟨B299, cs300, h301, e304, e305⟩
    rw [e304, e305]
    clear e304 e305 L302 M303
    refine OW.mem (M' := ((some b41, blk [.bool (x19.list), .slice A27 x19.data.length c28, .slice A30 x19.items.length c31] 89) :: ((B299 ++ (B20 ++ ((some b10, blk (⟨a0.kind, (a0.rooted), a0.root, a0.status, a0.used, a0.bloom, .slice A2 a0.logs.length c3⟩ : RcptC).C 30) :: []))) ++ N))) (fun w m => by have h := Mem.sinkAt (A := B299) m 0 1 rfl rfl; exact h) ?_
    have gq14 : ∀ w, More w0 Φ (B299 ++ (B20 ++ ((some b10, blk (⟨a0.kind, (a0.rooted), a0.root, a0.status, a0.used, a0.bloom, .slice A2 a0.logs.length c3⟩ : RcptC).C 30) :: []))) w → More w0 Φ (B20 ++ ((some b10, blk (⟨a0.kind, (a0.rooted), a0.root, a0.status, a0.used, a0.bloom, .slice A2 a0.logs.length c3⟩ : RcptC).C 30) :: [])) w := fun w q => More.mono (fun w m => (m).appR) q
    replace h8 := RcptRd.mono gq14 _ _ h8
    replace v4 := v4.mono gq14
    replace h6 := h6.mono (LogRd.mono gq14)
    replace hH11 := hH11.mono gq14
    replace h36 := ItRd.mono gq14 _ _ h36
    replace v29 := v29.mono gq14
    replace v32 := v32.mono gq14
    replace h34 := h34.mono (ItRd.mono gq14)
    replace v296 := v296.mono gq14
    replace hg2 := hg2.mono gq14
    replace h301 := ItRd.mono (Ψ := (More w0 Φ (B299 ++ (B20 ++ ((some b10, blk (⟨a0.kind, (a0.rooted), a0.root, a0.status, a0.used, a0.bloom, .slice A2 a0.logs.length c3⟩ : RcptC).C 30) :: []))))) (fun w q => More.flat q) _ _ h301
    have h315 := h301
    obtain ⟨A306, c307, A309, c310, cs312, e314, v308, v311, h313⟩ := ItRd.opn h301
    subst e314
    have m316 := v308.mx
    have m317 := v311.mx
    have m318 := v308.mx
    have m319 := v311.mx
    refine OW.sv (SV.storeW rfl rfl rfl (by intro u hu; simp at hu; rcases hu with rfl | rfl | rfl <;> rfl) rfl rfl rfl) ?_
    refine OW.nil ?_
    exact QW.join ⟨(x298.list), x298.data, x298.items, (B299 ++ (B20 ++ ((some b10, blk (⟨a0.kind, (a0.rooted), a0.root, a0.status, a0.used, a0.bloom, .slice A2 a0.logs.length c3⟩ : RcptC).C 30) :: []))), A306, c307, cs312, A309, c310, (Option.some.inj hq43).symm, (fun w m => (m).appR), v308, h313, v311, rfl, rfl⟩ ⟨rfl, rfl, trivial⟩ (fun w m => m.pick [0] 1 rfl rfl)
   ·replace hq43 := if_f hq43 h295
    refine CW.is_f rfl (Bool.eq_false_iff.2 h295) (CW.skip ?_)
    exact QW.join ⟨(x19.list), x19.data, x19.items, (B20 ++ ((some b10, blk (⟨a0.kind, (a0.rooted), a0.root, a0.status, a0.used, a0.bloom, .slice A2 a0.logs.length c3⟩ : RcptC).C 30) :: [])), A27, c28, cs33, A30, c31, (Option.some.inj hq43).symm, (fun w m => m), v29, h34, v32, rfl, rfl⟩ ⟨rfl, rfl, trivial⟩ (fun w m => m.pick [0] 1 rfl rfl)
 ·replace hf := if_f hf h17
  refine CW.is_t rfl (congrArg (fun b => !b) (decide_eq_false h17)) (CW.seq (CW.region (OW.rv (RV.move rfl) rfl (OW.rv (RV.assign rfl) rfl (OW.rv (RV.assign rfl) rfl (OW.nil (QW.then_n (CW.ret (QW.then_r (QW.mem (M' := ((none, blk ((u8s ([] : List (BitVec 8))) ++ []) 5) :: (((some b10, blk (⟨a0.kind, (a0.rooted), a0.root, a0.status, a0.used, a0.bloom, .slice A2 a0.logs.length c3⟩ : RcptC).C 30) :: []) ++ N))) (fun w m => m.nil_ent _) ?_))))))))))
  have er0 := Option.some.inj hf
  obtain ⟨e0, er1⟩ := Prod.mk.inj er0
  clear er0
  subst e0
  subst er1
  refine QW.retG (rs := [.tmp 2, .tmp 3]) ([sl none 0 ([] : List (BitVec 8)).length 0, .int .i64 ((x13 : Nat) : Int)]) ((none, blk ((u8s ([] : List (BitVec 8))) ++ []) 5) :: ((some b10, blk (⟨a0.kind, (a0.rooted), a0.root, a0.status, a0.used, a0.bloom, .slice A2 a0.logs.length c3⟩ : RcptC).C 30) :: [])) rfl ?_ rfl ?_ ?_ _ (.inl rfl)
  ·exact ⟨rfl, rfl, trivial⟩
  ·exact ⟨((some b10, blk (⟨a0.kind, (a0.rooted), a0.root, a0.status, a0.used, a0.bloom, .slice A2 a0.logs.length c3⟩ : RcptC).C 30) :: []), none, 0, [], OwnS.nil, (by omega), rfl, rfl⟩
  ·exact (fun w m => m.pick [0] 1 rfl rfl)
theorem waybilllaw17_same_does (w0 : World) (Φ : Ctx) (N : List Ent) (hΦ : ∀ w, Mem w0 w N → Φ w) (A0_ : Option Addr) (c0_ : Nat) (a0 : List (BitVec 8)) (A1_ : Option Addr) (c1_ : Nat) (a1 : List (BitVec 8)) (res0 : Bool) (va0 : View Φ A0_ a0.length c0_ 1 (u8s a0)) (va1 : View Φ A1_ a1.length c1_ 1 (u8s a1)) (hf : waybilllaw17_same a0 a1 = some res0) : DoesG Tryd.prog 35 [.slice A0_ a0.length c0_, .slice A1_ a1.length c1_] w0 [] N (fun v G => v = .bool res0) := by
 unfold waybilllaw17_same at hf
 replace va0 := va0.mono (Ψ := More w0 Φ []) (fun w q => q.1)
 replace va1 := va1.mono (Ψ := More w0 Φ []) (fun w q => q.1)
 have m1 := va0.mx
 have m2 := va1.mx
 refine DoesG.enter Tryd.func35 rfl Tryd.ntmps35 rfl (M := (([] ++ N))) rfl (CW.seq (CW.region (OW.rv (RV.assign rfl) rfl (OW.nil (QW.then_n (CW.seq (CW.seq (CW.region (OW.rv (RV.move rfl) rfl (OW.rv (RV.len rfl rfl) rfl (OW.rv (RV.move rfl) rfl (OW.rv (RV.len rfl rfl) rfl (OW.rv (RV.neq rfl rfl) rfl (OW.slot (.bool (!decide (a0.length = a1.length))) (congrArg (fun b => Value.bool (!b)) (decide_eq_decide.2 (by omega))) (OW.nil (QW.then_n ?_))))))))))))))))
 by_cases h3 : a0.length = a1.length
 ·replace hf := if_t hf h3
  refine CW.is_f rfl (congrArg (fun b => !b) (decide_eq_true h3)) (CW.skip (QW.then_n (CW.seq (CW.seq (CW.region (OW.rv (RV.assign rfl) rfl (OW.nil (QW.then_n ?_))))))))
  obtain ⟨q4, hq5, hf⟩ := some_bind hf
  refine CW.cutJ (fun L' M' => q4 = Lp.go () ∧ L' = [] ∧ M' = (([] ++ N))) ?_ ?_
  ·rintro L7 M8 ⟨e6, e9, e10⟩
   rw [e9, e10]
   clear e9 e10 L7 M8
   clear hq5
   rw [e6] at hf
   clear e6
   try dsimp only at hf
   refine QW.then_n (CW.seq (CW.region (OW.rv (RV.assign rfl) rfl (OW.nil (QW.then_n (CW.ret ?_))))))
   have e0 := Option.some.inj hf
   subst e0
   refine QW.retG (rs := [.tmp 4]) ([.bool true]) ([]) rfl ?_ rfl ?_ ?_ _ (.inl rfl)
   ·exact ⟨rfl, trivial⟩
   ·exact rfl
   ·exact (fun w m => m)
  ·skip
   refine CW.block (CW.loopJ (fun k L' M' => ∃ n11 : Nat, (waybilllaw17_same.l1 a0 a1 k n11) = some q4 ∧ (n11 ≤ 9223372036854775807) ∧ L' = [(0, .slice A0_ a0.length c0_), (1, .slice A1_ a1.length c1_), (5, .int .i64 ((n11 : Nat) : Int))] ∧ M' = (([] ++ N))) (k0 := (a0.length - 0 + 2)) ⟨0, hq5, (by omega), rfl, rfl⟩ ⟨rfl, rfl, rfl, trivial⟩ (fun w m => m.pick [] 0 rfl rfl) ?_)
   clear hq5
   rintro k13 L16 M17 ⟨n11, hl14, b12, e18, e19⟩
   rw [e18, e19]
   clear e18 e19 L16 M17
   rcases k13 with _ | k13
   ·rw [waybilllaw17_same.l1] at hl14; cases hl14
   rw [waybilllaw17_same.l1] at hl14
   refine CW.seq (CW.seq (CW.region (OW.rv (RV.move rfl) rfl (OW.rv (RV.move rfl) rfl (OW.rv (RV.len rfl rfl) rfl (OW.rv (RV.lss rfl rfl) rfl (OW.slot (.bool (decide (n11 < a0.length))) (congrArg Value.bool (decide_eq_decide.2 (by omega))) (OW.nil (QW.then_n ?_)))))))))
   by_cases h20 : n11 < a0.length
   ·replace hl14 := if_t hl14 h20
    refine CW.is_t rfl (decide_eq_true h20) (CW.skip (QW.then_n (CW.seq (CW.block (CW.seq (CW.drawsU 9 mixed (by kernel_rfl) rfl (UW.rv 0 rfl (by kernel_rfl) rfl (RV.move rfl) rfl (UW.rv 1 rfl (by kernel_rfl) rfl (RV.move rfl) rfl ?_))))))))
    obtain ⟨x21, hx22, hl14⟩ := some_bind hl14
    have hl23 := lt_of_at hx22
    refine UW.rv 2 rfl (by kernel_rfl) rfl (RV.idx_r (n11) rfl rfl rfl rfl rfl (va0.isSome (by decide) hl23) (by omega)) rfl (UW.rv 3 rfl (by kernel_rfl) rfl (RV.load_at rfl rfl rfl (fun w m => va0.cell (More.of hΦ 0 m rfl) (u8s_at hx22))) rfl (UW.rv 4 rfl (by kernel_rfl) rfl (RV.move rfl) rfl (UW.rv 5 rfl (by kernel_rfl) rfl (RV.move rfl) rfl ?_)))
    obtain ⟨x24, hx25, hl14⟩ := some_bind hl14
    have hl26 := lt_of_at hx25
    refine UW.rv 6 rfl (by kernel_rfl) rfl (RV.idx_r (n11) rfl rfl rfl rfl rfl (va1.isSome (by decide) hl26) (by omega)) rfl (UW.rv 7 rfl (by kernel_rfl) rfl (RV.load_at rfl rfl rfl (fun w m => va1.cell (More.of hΦ 0 m rfl) (u8s_at hx25))) rfl (UW.rv 8 rfl (by kernel_rfl) rfl (RV.neq8 rfl (by first | rfl | exact lit8 _ rfl) rfl (by first | rfl | exact lit8 _ rfl)) rfl (UW.nil (by kernel_rfl) (OW.nil (QW.then_n ?_)))))
    by_cases h27 : x21 = x24
    ·replace hl14 := if_t hl14 h27
     refine CW.is_f rfl (congrArg (fun b => !b) (decide_eq_true h27)) (CW.skip (QW.block_n (QW.then_n (CW.region (OW.rv (RV.move rfl) rfl (OW.rv (RV.add rfl rfl (by omega)) rfl (OW.slot (.int .i64 (((n11 + 1) : Nat) : Int)) (by first | rfl | (congr 1) | (congr 1; omega)) (OW.rv (RV.assign rfl) rfl (OW.nil ?_)))))))))
     exact QW.againJ (k' := k13) (Nat.lt_succ_self _) ⟨(n11 + 1), hl14, (by omega), rfl, rfl⟩ ⟨rfl, rfl, rfl, trivial⟩ (fun w m => m.pick [] 0 rfl rfl)
    ·replace hl14 := if_f hl14 h27
     refine CW.is_t rfl (congrArg (fun b => !b) (decide_eq_false h27)) (CW.seq (CW.region (OW.rv (RV.assign rfl) rfl (OW.nil (QW.then_n (CW.ret (QW.block_r (QW.then_r (QW.then_r (QW.block_r (QW.then_r ?_)))))))))))
     have hc := Option.some.inj hl14
     subst hc
     try dsimp only at hf
     refine QW.then_r ?_
     have e0 := Option.some.inj hf
     subst e0
     refine QW.retG (rs := [.tmp 4]) ([.bool false]) ([]) rfl ?_ rfl ?_ ?_ _ (.inl rfl)
     ·exact ⟨rfl, trivial⟩
     ·exact rfl
     ·exact (fun w m => m)
   ·replace hl14 := if_f hl14 h20
    refine CW.is_f rfl (decide_eq_false h20) (CW.exit (QW.then_x (QW.then_x (QW.block_xe ?_))))
    exact QW.join ⟨(Option.some.inj hl14).symm, rfl, rfl⟩ trivial (fun w m => m.pick [] 0 rfl rfl)
 ·replace hf := if_f hf h3
  refine CW.is_t rfl (congrArg (fun b => !b) (decide_eq_false h3)) (CW.seq (CW.region (OW.rv (RV.assign rfl) rfl (OW.nil (QW.then_n (CW.ret (QW.then_r ?_)))))))
  have e0 := Option.some.inj hf
  subst e0
  refine QW.retG (rs := [.tmp 4]) ([.bool false]) ([]) rfl ?_ rfl ?_ ?_ _ (.inl rfl)
  ·exact ⟨rfl, trivial⟩
  ·exact rfl
  ·exact (fun w m => m)
theorem waybilllaw17_sameLog_does (w0 : World) (Φ : Ctx) (N : List Ent) (hΦ : ∀ w, Mem w0 w N → Φ w) (cs0_ : List Value) (a0 : Log) (cs1_ : List Value) (a1 : Log) (res0 : Bool) (ha0 : LogRd Φ cs0_ a0) (ha1 : LogRd Φ cs1_ a1) (hf : waybilllaw17_sameLog a0 a1 = some res0) : DoesG Tryd.prog 76 [.agg cs0_.toArray, .agg cs1_.toArray] w0 [] N (fun v G => v = .bool res0) := by
 unfold waybilllaw17_sameLog at hf
 replace ha0 := LogRd.mono (Ψ := More w0 Φ []) (fun w q => q.1) _ _ ha0
 have h10 := ha0
 obtain ⟨A1, c2, cs4, A6, c7, e9, v3, h5, v8⟩ := LogRd.opn ha0
 subst e9
 have m11 := v3.mx
 have m12 := v8.mx
 replace ha1 := LogRd.mono (Ψ := More w0 Φ []) (fun w q => q.1) _ _ ha1
 have h22 := ha1
 obtain ⟨A13, c14, cs16, A18, c19, e21, v15, h17, v20⟩ := LogRd.opn ha1
 subst e21
 have m23 := v15.mx
 have m24 := v20.mx
 refine DoesG.enter Tryd.func76 rfl Tryd.ntmps76 rfl (M := (([] ++ N))) rfl (CW.seq (CW.region (OW.boxA rfl rfl (fun b25 => (OW.boxA rfl rfl (fun b26 => (OW.rv (RV.assign rfl) rfl (OW.nil (QW.then_n (CW.seq (CW.seq ?_)))))))))))
 obtain ⟨q27, hq28, hf⟩ := some_bind hf
 refine CW.cutJ (fun L' M' => ∃ p29 : Bool, q27 = p29 ∧ L' = [(2, ptr (some b25) 0), (3, ptr (some b26) 0), (19, .bool (p29))] ∧ M' = ((some b26, blk (⟨a1.address, .slice A13 a1.topics.length c14, .slice A18 a1.data.length c19⟩ : LogC).C 63) :: (some b25, blk (⟨a0.address, .slice A1 a0.topics.length c2, .slice A6 a0.data.length c7⟩ : LogC).C 63) :: ([] ++ N))) ?_ ?_
 ·rintro L31 M32 ⟨p29, e30, e33, e34⟩
  rw [e33, e34]
  clear e33 e34 L31 M32
  clear hq28
  rw [e30] at hf
  clear e30
  try dsimp only at hf
  refine QW.then_n ?_
  by_cases h35 : p29 = true
  ·replace hf := if_t hf h35
   refine CW.is_t rfl (h35) (CW.seq (CW.region (OW.rv (RV.assign rfl) rfl (OW.nil (QW.then_n (CW.ret (QW.then_r ?_)))))))
   have e0 := Option.some.inj hf
   subst e0
   refine QW.retG (rs := [.tmp 4]) ([.bool false]) ((some b26, blk (⟨a1.address, .slice A13 a1.topics.length c14, .slice A18 a1.data.length c19⟩ : LogC).C 63) :: (some b25, blk (⟨a0.address, .slice A1 a0.topics.length c2, .slice A6 a0.data.length c7⟩ : LogC).C 63) :: []) rfl ?_ rfl ?_ ?_ _ (.inl rfl)
   ·exact ⟨rfl, trivial⟩
   ·exact rfl
   ·exact (fun w m => m)
  ·replace hf := if_f hf h35
   refine CW.is_f rfl (Bool.eq_false_iff.2 h35) (CW.skip (QW.then_n (CW.seq (CW.seq (CW.region (OW.rv (RV.assign rfl) rfl (OW.nil (QW.then_n ?_))))))))
   obtain ⟨q36, hq37, hf⟩ := some_bind hf
   refine CW.cutJ (fun L' M' => q36 = Lp.go () ∧ L' = [(2, ptr (some b25) 0), (3, ptr (some b26) 0)] ∧ M' = ((some b26, blk (⟨a1.address, .slice A13 a1.topics.length c14, .slice A18 a1.data.length c19⟩ : LogC).C 63) :: (some b25, blk (⟨a0.address, .slice A1 a0.topics.length c2, .slice A6 a0.data.length c7⟩ : LogC).C 63) :: ([] ++ N))) ?_ ?_
   ·rintro L39 M40 ⟨e38, e41, e42⟩
    rw [e41, e42]
    clear e41 e42 L39 M40
    clear hq37
    rw [e38] at hf
    clear e38
    try dsimp only at hf
    refine QW.then_n (CW.seq (CW.region (OW.rv (RV.field rfl rfl rfl rfl) rfl (OW.slot (ptr (some b25) 21) rfl (OW.rv (RV.load rfl (List.Mem.tail _ (List.Mem.head _)) rfl rfl rfl (LogC.C_data (⟨a0.address, .slice A1 a0.topics.length c2, .slice A6 a0.data.length c7⟩ : LogC))) rfl (OW.rv (RV.field rfl rfl rfl rfl) rfl (OW.slot (ptr (some b26) 21) rfl (OW.rv (RV.load rfl (List.Mem.head _) rfl rfl rfl (LogC.C_data (⟨a1.address, .slice A13 a1.topics.length c14, .slice A18 a1.data.length c19⟩ : LogC))) rfl ?_))))))))
    obtain ⟨x44, hx43, hf⟩ := some_bind hf
    refine OW.callG Tryd.call35 rfl (waybilllaw17_same_does w0 (More w0 Φ []) ((some b26, blk (⟨a1.address, .slice A13 a1.topics.length c14, .slice A18 a1.data.length c19⟩ : LogC).C 63) :: (some b25, blk (⟨a0.address, .slice A1 a0.topics.length c2, .slice A6 a0.data.length c7⟩ : LogC).C 63) :: ([] ++ N)) (fun w m => More.of hΦ 2 m rfl) A6 c7 a0.data A18 c19 a1.data x44 v8 v20 hx43) rfl rfl ?_
    rintro _ G45 rfl
    refine OW.mem (M' := ((some b26, blk (⟨a1.address, .slice A13 a1.topics.length c14, .slice A18 a1.data.length c19⟩ : LogC).C 63) :: (some b25, blk (⟨a0.address, .slice A1 a0.topics.length c2, .slice A6 a0.data.length c7⟩ : LogC).C 63) :: ([] ++ N))) (fun w m => m.appR) (OW.rv (RV.assign rfl) rfl (OW.nil (QW.then_n (CW.ret ?_))))
    have e0 := Option.some.inj hf
    subst e0
    refine QW.retG (rs := [.tmp 4]) ([.bool (x44)]) ((some b26, blk (⟨a1.address, .slice A13 a1.topics.length c14, .slice A18 a1.data.length c19⟩ : LogC).C 63) :: (some b25, blk (⟨a0.address, .slice A1 a0.topics.length c2, .slice A6 a0.data.length c7⟩ : LogC).C 63) :: []) rfl ?_ rfl ?_ ?_ _ (.inl rfl)
    ·exact ⟨rfl, trivial⟩
    ·exact rfl
    ·exact (fun w m => m)
   ·skip
    refine CW.block (CW.loopJ (fun k L' M' => ∃ n47 : Nat, (waybilllaw17_sameLog.l1 a0 a1 k n47) = some q36 ∧ (n47 ≤ 9223372036854775807) ∧ L' = [(2, ptr (some b25) 0), (3, ptr (some b26) 0), (5, .int .i64 ((n47 : Nat) : Int))] ∧ M' = ((some b26, blk (⟨a1.address, .slice A13 a1.topics.length c14, .slice A18 a1.data.length c19⟩ : LogC).C 63) :: (some b25, blk (⟨a0.address, .slice A1 a0.topics.length c2, .slice A6 a0.data.length c7⟩ : LogC).C 63) :: ([] ++ N))) (k0 := (a0.topics.length - 0 + 2)) ⟨0, hq37, (by omega), rfl, rfl⟩ ⟨rfl, rfl, rfl, trivial⟩ (fun w m => m.pick [0, 1] 2 rfl rfl) ?_)
    clear hq37
    rintro k49 L52 M53 ⟨n47, hl50, b48, e54, e55⟩
    rw [e54, e55]
    clear e54 e55 L52 M53
    rcases k49 with _ | k49
    ·rw [waybilllaw17_sameLog.l1] at hl50; cases hl50
    rw [waybilllaw17_sameLog.l1] at hl50
    refine CW.seq (CW.seq (CW.region (OW.rv (RV.move rfl) rfl (OW.rv (RV.field rfl rfl rfl rfl) rfl (OW.slot (ptr (some b25) 20) rfl (OW.rv (RV.load rfl (List.Mem.tail _ (List.Mem.head _)) rfl rfl rfl (LogC.C_topics (⟨a0.address, .slice A1 a0.topics.length c2, .slice A6 a0.data.length c7⟩ : LogC))) rfl (OW.rv (RV.len rfl rfl) rfl (OW.rv (RV.lss rfl rfl) rfl (OW.slot (.bool (decide (n47 < a0.topics.length))) (congrArg Value.bool (decide_eq_decide.2 (by omega))) (OW.nil (QW.then_n ?_)))))))))))
    by_cases h56 : n47 < a0.topics.length
    ·replace hl50 := if_t hl50 h56
     refine CW.is_t rfl (decide_eq_true h56) (CW.skip (QW.then_n (CW.seq (CW.block (CW.seq (CW.drawsU 11 mixed (by kernel_rfl) rfl (UW.rv 0 rfl (by kernel_rfl) rfl (RV.field rfl rfl rfl rfl) rfl (UW.slot (ptr (some b25) 20) rfl (UW.rv 1 rfl (by kernel_rfl) rfl (RV.load rfl (List.Mem.tail _ (List.Mem.head _)) rfl rfl rfl (LogC.C_topics (⟨a0.address, .slice A1 a0.topics.length c2, .slice A6 a0.data.length c7⟩ : LogC))) rfl (UW.rv 2 rfl (by kernel_rfl) rfl (RV.move rfl) rfl ?_))))))))))
     obtain ⟨x57, hx58, hl50⟩ := some_bind hl50
     have hl59 := lt_of_at hx58
     refine UW.rv 3 rfl (by kernel_rfl) rfl (RV.idx_rs (n47) rfl rfl rfl rfl rfl (v3.isSome (by decide) hl59) (by omega)) rfl ?_
     obtain ⟨cs60, h61, h62⟩ := h5.get Ar8Rd.len hx58
     have h61a := h61
     subst h61a
     refine UW.rv 4 rfl (by kernel_rfl) rfl (RV.loadAs rfl rfl rfl rfl (fun w m => v3.load (More.of hΦ 2 m rfl) h62) ((u8s_length _).trans Vector.length_toList)) rfl (UW.rv 5 rfl (by kernel_rfl) rfl (RV.field rfl rfl rfl rfl) rfl (UW.slot (ptr (some b26) 20) rfl (UW.rv 6 rfl (by kernel_rfl) rfl (RV.load rfl (List.Mem.head _) rfl rfl rfl (LogC.C_topics (⟨a1.address, .slice A13 a1.topics.length c14, .slice A18 a1.data.length c19⟩ : LogC))) rfl (UW.rv 7 rfl (by kernel_rfl) rfl (RV.move rfl) rfl ?_))))
     obtain ⟨x63, hx64, hl50⟩ := some_bind hl50
     have hl65 := lt_of_at hx64
     refine UW.rv 8 rfl (by kernel_rfl) rfl (RV.idx_rs (n47) rfl rfl rfl rfl rfl (v15.isSome (by decide) hl65) (by omega)) rfl ?_
     obtain ⟨cs66, h67, h68⟩ := h17.get Ar8Rd.len hx64
     have h67a := h67
     subst h67a
     refine UW.rv 9 rfl (by kernel_rfl) rfl (RV.loadAs rfl rfl rfl rfl (fun w m => v15.load (More.of hΦ 2 m rfl) h68) ((u8s_length _).trans Vector.length_toList)) rfl (UW.rv 10 rfl (by kernel_rfl) rfl (RV.neA8 rfl rfl rfl rfl rfl rfl (Vector.length_toList) (Vector.length_toList)) rfl (UW.slot (.bool (!decide (x57 = x63))) (congrArg (fun b => Value.bool (!b)) (decide_eq_decide.2 Vector.toList_inj)) (UW.nil (by kernel_rfl) (OW.nil (QW.then_n ?_)))))
     by_cases h69 : x57 = x63
     ·replace hl50 := if_t hl50 h69
      refine CW.is_f rfl (congrArg (fun b => !b) (decide_eq_true h69)) (CW.skip (QW.block_n (QW.then_n (CW.region (OW.rv (RV.move rfl) rfl (OW.rv (RV.add rfl rfl (by omega)) rfl (OW.slot (.int .i64 (((n47 + 1) : Nat) : Int)) (by first | rfl | (congr 1) | (congr 1; omega)) (OW.rv (RV.assign rfl) rfl (OW.nil ?_)))))))))
      exact QW.againJ (k' := k49) (Nat.lt_succ_self _) ⟨(n47 + 1), hl50, (by omega), rfl, rfl⟩ ⟨rfl, rfl, rfl, trivial⟩ (fun w m => m.pick [0, 1] 2 rfl rfl)
     ·replace hl50 := if_f hl50 h69
      refine CW.is_t rfl (congrArg (fun b => !b) (decide_eq_false h69)) (CW.seq (CW.region (OW.rv (RV.assign rfl) rfl (OW.nil (QW.then_n (CW.ret (QW.block_r (QW.then_r (QW.then_r (QW.block_r (QW.then_r ?_)))))))))))
      have hc := Option.some.inj hl50
      subst hc
      try dsimp only at hf
      refine QW.then_r ?_
      have e0 := Option.some.inj hf
      subst e0
      refine QW.retG (rs := [.tmp 4]) ([.bool false]) ((some b26, blk (⟨a1.address, .slice A13 a1.topics.length c14, .slice A18 a1.data.length c19⟩ : LogC).C 63) :: (some b25, blk (⟨a0.address, .slice A1 a0.topics.length c2, .slice A6 a0.data.length c7⟩ : LogC).C 63) :: []) rfl ?_ rfl ?_ ?_ _ (.inl rfl)
      ·exact ⟨rfl, trivial⟩
      ·exact rfl
      ·exact (fun w m => m)
    ·replace hl50 := if_f hl50 h56
     refine CW.is_f rfl (decide_eq_false h56) (CW.exit (QW.then_x (QW.then_x (QW.block_xe ?_))))
     exact QW.join ⟨(Option.some.inj hl50).symm, rfl, rfl⟩ ⟨rfl, rfl, trivial⟩ (fun w m => m.pick [0, 1] 2 rfl rfl)
 ·skip
  refine CW.region (OW.rv (RV.field rfl rfl rfl rfl) rfl (OW.slot (ptr (some b25) 0) rfl (OW.rv (RV.loadAo rfl (List.Mem.tail _ (List.Mem.head _)) rfl rfl rfl rfl (LogC.C_address_all (⟨a0.address, .slice A1 a0.topics.length c2, .slice A6 a0.data.length c7⟩ : LogC)) ((u8s_length _).trans Vector.length_toList)) rfl (OW.rv (RV.field rfl rfl rfl rfl) rfl (OW.slot (ptr (some b26) 0) rfl (OW.rv (RV.loadAo rfl (List.Mem.head _) rfl rfl rfl rfl (LogC.C_address_all (⟨a1.address, .slice A13 a1.topics.length c14, .slice A18 a1.data.length c19⟩ : LogC)) ((u8s_length _).trans Vector.length_toList)) rfl (OW.rv (RV.neA8 rfl rfl rfl rfl rfl rfl (Vector.length_toList) (Vector.length_toList)) rfl (OW.slot (.bool (!decide (a0.address = a1.address))) (congrArg (fun b => Value.bool (!b)) (decide_eq_decide.2 Vector.toList_inj)) (OW.rv (RV.move rfl) rfl ?_)))))))))
  by_cases h70 : a0.address = a1.address
  ·replace hq28 := if_t hq28 h70
   refine OW.slot (.bool false) (congrArg Value.bool (congrArg (fun b => !b) (decide_eq_true h70))) (OW.want rfl (OW.rv (RV.field rfl rfl rfl rfl) rfl (OW.slot (ptr (some b25) 20) rfl (OW.want rfl (OW.rv (RV.load rfl (List.Mem.tail _ (List.Mem.head _)) rfl rfl rfl (LogC.C_topics (⟨a0.address, .slice A1 a0.topics.length c2, .slice A6 a0.data.length c7⟩ : LogC))) rfl (OW.want rfl (OW.rv (RV.len rfl rfl) rfl (OW.want rfl (OW.rv (RV.field rfl rfl rfl rfl) rfl (OW.slot (ptr (some b26) 20) rfl (OW.want rfl (OW.rv (RV.load rfl (List.Mem.head _) rfl rfl rfl (LogC.C_topics (⟨a1.address, .slice A13 a1.topics.length c14, .slice A18 a1.data.length c19⟩ : LogC))) rfl (OW.want rfl (OW.rv (RV.len rfl rfl) rfl (OW.want rfl (OW.rv (RV.neq rfl rfl) rfl (OW.slot (.bool (!decide (a0.topics.length = a1.topics.length))) (congrArg (fun b => Value.bool (!b)) (decide_eq_decide.2 (by omega))) (OW.rv (RV.pick_f rfl rfl rfl) rfl (OW.nil ?_)))))))))))))))))))
   exact QW.join ⟨(!decide (a0.topics.length = a1.topics.length)), (Option.some.inj hq28).symm, rfl, rfl⟩ ⟨rfl, rfl, rfl, trivial⟩ (fun w m => m.pick [0, 1] 2 rfl rfl)
  ·replace hq28 := if_f hq28 h70
   refine OW.slot (.bool true) (congrArg Value.bool (congrArg (fun b => !b) (decide_eq_false h70))) (OW.skip rfl rfl rfl (OW.skip rfl rfl rfl (OW.skip rfl rfl rfl (OW.skip rfl rfl rfl (OW.skip rfl rfl rfl (OW.skip rfl rfl rfl (OW.skip rfl rfl rfl (OW.rv (RV.pick_t rfl rfl rfl) rfl (OW.nil ?_)))))))))
   exact QW.join ⟨true, (Option.some.inj hq28).symm, rfl, rfl⟩ ⟨rfl, rfl, rfl, trivial⟩ (fun w m => m.pick [0, 1] 2 rfl rfl)
theorem waybilllaw17_sameLogs_does (w0 : World) (Φ : Ctx) (N : List Ent) (hΦ : ∀ w, Mem w0 w N → Φ w) (A0_ : Option Addr) (c0_ : Nat) (cs0_ : List Value) (a0 : List (Log)) (A1_ : Option Addr) (c1_ : Nat) (cs1_ : List Value) (a1 : List (Log)) (res0 : Bool) (va0 : View Φ A0_ a0.length c0_ 22 cs0_) (ha0 : Reps (LogRd Φ) cs0_ a0) (va1 : View Φ A1_ a1.length c1_ 22 cs1_) (ha1 : Reps (LogRd Φ) cs1_ a1) (hf : waybilllaw17_sameLogs a0 a1 = some res0) : DoesG Tryd.prog 45 [.slice A0_ a0.length c0_, .slice A1_ a1.length c1_] w0 [] N (fun v G => v = .bool res0) := by
 unfold waybilllaw17_sameLogs at hf
 replace va0 := va0.mono (Ψ := More w0 Φ []) (fun w q => q.1)
 replace va1 := va1.mono (Ψ := More w0 Φ []) (fun w q => q.1)
 replace ha0 := ha0.mono (LogRd.mono (Ψ := More w0 Φ []) (fun w q => q.1))
 replace ha1 := ha1.mono (LogRd.mono (Ψ := More w0 Φ []) (fun w q => q.1))
 have m1 := va0.mx
 have m2 := va1.mx
 refine DoesG.enter Tryd.func45 rfl Tryd.ntmps45 rfl (M := (([] ++ N))) rfl (CW.seq (CW.region (OW.rv (RV.assign rfl) rfl (OW.nil (QW.then_n (CW.seq (CW.seq (CW.region (OW.rv (RV.move rfl) rfl (OW.rv (RV.len rfl rfl) rfl (OW.rv (RV.move rfl) rfl (OW.rv (RV.len rfl rfl) rfl (OW.rv (RV.neq rfl rfl) rfl (OW.slot (.bool (!decide (a0.length = a1.length))) (congrArg (fun b => Value.bool (!b)) (decide_eq_decide.2 (by omega))) (OW.nil (QW.then_n ?_))))))))))))))))
 by_cases h3 : a0.length = a1.length
 ·replace hf := if_t hf h3
  refine CW.is_f rfl (congrArg (fun b => !b) (decide_eq_true h3)) (CW.skip (QW.then_n (CW.seq (CW.seq (CW.region (OW.rv (RV.assign rfl) rfl (OW.nil (QW.then_n ?_))))))))
  obtain ⟨q4, hq5, hf⟩ := some_bind hf
  refine CW.cutJ (fun L' M' => q4 = Lp.go () ∧ L' = [] ∧ M' = (([] ++ N))) ?_ ?_
  ·rintro L7 M8 ⟨e6, e9, e10⟩
   rw [e9, e10]
   clear e9 e10 L7 M8
   clear hq5
   rw [e6] at hf
   clear e6
   try dsimp only at hf
   refine QW.then_n (CW.seq (CW.region (OW.rv (RV.assign rfl) rfl (OW.nil (QW.then_n (CW.ret ?_))))))
   have e0 := Option.some.inj hf
   subst e0
   refine QW.retG (rs := [.tmp 4]) ([.bool true]) ([]) rfl ?_ rfl ?_ ?_ _ (.inl rfl)
   ·exact ⟨rfl, trivial⟩
   ·exact rfl
   ·exact (fun w m => m)
  ·skip
   refine CW.block (CW.loopJ (fun k L' M' => ∃ n11 : Nat, (waybilllaw17_sameLogs.l1 a0 a1 k n11) = some q4 ∧ (n11 ≤ 9223372036854775807) ∧ L' = [(0, .slice A0_ a0.length c0_), (1, .slice A1_ a1.length c1_), (5, .int .i64 ((n11 : Nat) : Int))] ∧ M' = (([] ++ N))) (k0 := (a0.length - 0 + 2)) ⟨0, hq5, (by omega), rfl, rfl⟩ ⟨rfl, rfl, rfl, trivial⟩ (fun w m => m.pick [] 0 rfl rfl) ?_)
   clear hq5
   rintro k13 L16 M17 ⟨n11, hl14, b12, e18, e19⟩
   rw [e18, e19]
   clear e18 e19 L16 M17
   rcases k13 with _ | k13
   ·rw [waybilllaw17_sameLogs.l1] at hl14; cases hl14
   rw [waybilllaw17_sameLogs.l1] at hl14
   refine CW.seq (CW.seq (CW.region (OW.rv (RV.move rfl) rfl (OW.rv (RV.move rfl) rfl (OW.rv (RV.len rfl rfl) rfl (OW.rv (RV.lss rfl rfl) rfl (OW.slot (.bool (decide (n11 < a0.length))) (congrArg Value.bool (decide_eq_decide.2 (by omega))) (OW.nil (QW.then_n ?_)))))))))
   by_cases h20 : n11 < a0.length
   ·replace hl14 := if_t hl14 h20
    refine CW.is_t rfl (decide_eq_true h20) (CW.skip (QW.then_n (CW.seq (CW.block (CW.seq (CW.drawsU 10 mixed (by kernel_rfl) rfl (UW.rv 0 rfl (by kernel_rfl) rfl (RV.move rfl) rfl (UW.rv 1 rfl (by kernel_rfl) rfl (RV.move rfl) rfl ?_))))))))
    obtain ⟨x21, hx22, hl14⟩ := some_bind hl14
    have hl23 := lt_of_at hx22
    refine UW.rv 2 rfl (by kernel_rfl) rfl (RV.idx_rs (n11) rfl rfl rfl rfl rfl (va0.isSome (by decide) hl23) (by omega)) rfl ?_
    obtain ⟨cs24, h25, h26⟩ := ha0.get LogRd.len hx22
    have h36 := h25
    obtain ⟨A27, c28, cs30, A32, c33, e35, v29, h31, v34⟩ := LogRd.opn h25
    subst e35
    have m37 := v29.mx
    have m38 := v34.mx
    refine UW.rv 3 rfl (by kernel_rfl) rfl (RV.loadAs rfl rfl rfl rfl (fun w m => va0.load (More.of hΦ 0 m rfl) h26) (LogC.C_length _)) rfl (UW.rv 4 rfl (by kernel_rfl) rfl (RV.move rfl) rfl (UW.rv 5 rfl (by kernel_rfl) rfl (RV.move rfl) rfl ?_))
    obtain ⟨x39, hx40, hl14⟩ := some_bind hl14
    have hl41 := lt_of_at hx40
    refine UW.rv 6 rfl (by kernel_rfl) rfl (RV.idx_rs (n11) rfl rfl rfl rfl rfl (va1.isSome (by decide) hl41) (by omega)) rfl ?_
    obtain ⟨cs42, h43, h44⟩ := ha1.get LogRd.len hx40
    have h54 := h43
    obtain ⟨A45, c46, cs48, A50, c51, e53, v47, h49, v52⟩ := LogRd.opn h43
    subst e53
    have m55 := v47.mx
    have m56 := v52.mx
    refine UW.rv 7 rfl (by kernel_rfl) rfl (RV.loadAs rfl rfl rfl rfl (fun w m => va1.load (More.of hΦ 0 m rfl) h44) (LogC.C_length _)) rfl ?_
    obtain ⟨x58, hx57, hl14⟩ := some_bind hl14
    refine UW.callG 8 rfl (by kernel_rfl) rfl Tryd.call76 rfl (fun N' hN' => waybilllaw17_sameLog_does w0 (More w0 Φ []) N' (fun w m => More.of hΦ 0 (hN' w m) rfl) (⟨x21.address, .slice A27 x21.topics.length c28, .slice A32 x21.data.length c33⟩ : LogC).C x21 (⟨x39.address, .slice A45 x39.topics.length c46, .slice A50 x39.data.length c51⟩ : LogC).C x39 x58 h36 h54 hx57) rfl ?_
    rintro _ G59 rfl
    refine UW.mem (M' := (([] ++ N))) (fun w m => m.appR) (UW.rv 9 rfl (by kernel_rfl) rfl (RV.assign rfl) rfl (UW.nil (by kernel_rfl) (OW.nil (QW.then_n (CW.seq (CW.region (OW.rv (RV.move rfl) rfl (OW.rv (RV.not rfl) rfl (OW.nil (QW.then_n ?_))))))))))
    by_cases h61 : x58 = true
    ·replace hl14 := if_t hl14 h61
     refine CW.is_f rfl (congrArg (fun b => !b) (h61)) (CW.skip (QW.block_n (QW.then_n (CW.region (OW.rv (RV.move rfl) rfl (OW.rv (RV.add rfl rfl (by omega)) rfl (OW.slot (.int .i64 (((n11 + 1) : Nat) : Int)) (by first | rfl | (congr 1) | (congr 1; omega)) (OW.rv (RV.assign rfl) rfl (OW.nil ?_)))))))))
     exact QW.againJ (k' := k13) (Nat.lt_succ_self _) ⟨(n11 + 1), hl14, (by omega), rfl, rfl⟩ ⟨rfl, rfl, rfl, trivial⟩ (fun w m => m.pick [] 0 rfl rfl)
    ·replace hl14 := if_f hl14 h61
     refine CW.is_t rfl (congrArg (fun b => !b) (Bool.eq_false_iff.2 h61)) (CW.seq (CW.region (OW.rv (RV.assign rfl) rfl (OW.nil (QW.then_n (CW.ret (QW.block_r (QW.then_r (QW.then_r (QW.block_r (QW.then_r ?_)))))))))))
     have hc := Option.some.inj hl14
     subst hc
     try dsimp only at hf
     refine QW.then_r ?_
     have e0 := Option.some.inj hf
     subst e0
     refine QW.retG (rs := [.tmp 4]) ([.bool false]) ([]) rfl ?_ rfl ?_ ?_ _ (.inl rfl)
     ·exact ⟨rfl, trivial⟩
     ·exact rfl
     ·exact (fun w m => m)
   ·replace hl14 := if_f hl14 h20
    refine CW.is_f rfl (decide_eq_false h20) (CW.exit (QW.then_x (QW.then_x (QW.block_xe ?_))))
    exact QW.join ⟨(Option.some.inj hl14).symm, rfl, rfl⟩ trivial (fun w m => m.pick [] 0 rfl rfl)
 ·replace hf := if_f hf h3
  refine CW.is_t rfl (congrArg (fun b => !b) (decide_eq_false h3)) (CW.seq (CW.region (OW.rv (RV.assign rfl) rfl (OW.nil (QW.then_n (CW.ret (QW.then_r ?_)))))))
  have e0 := Option.some.inj hf
  subst e0
  refine QW.retG (rs := [.tmp 4]) ([.bool false]) ([]) rfl ?_ rfl ?_ ?_ _ (.inl rfl)
  ·exact ⟨rfl, trivial⟩
  ·exact rfl
  ·exact (fun w m => m)
theorem waybillref17_text_does (w0 : World) (Φ : Ctx) (N : List Ent) (hΦ : ∀ w, Mem w0 w N → Φ w) (A0_ : Option Addr) (c0_ : Nat) (a0 : List (BitVec 8)) (res0 : It) (va0 : View Φ A0_ a0.length c0_ 1 (u8s a0)) (hf : waybillref17_text a0 = some res0) : DoesG Tryd.prog 52 [.slice A0_ a0.length c0_] w0 [] N (fun v G => ∃ B : List Ent, ∃ cr0 : List Value, (ItRd (More w0 Φ B) cr0 res0) ∧ v = .agg cr0.toArray ∧ G = B) := by
 unfold waybillref17_text at hf
 replace va0 := va0.mono (Ψ := More w0 Φ []) (fun w q => q.1)
 have m1 := va0.mx
 refine DoesG.enter Tryd.func52 rfl Tryd.ntmps52 rfl (M := (([] ++ N))) rfl (CW.seq (CW.region (OW.alloc (l := [.bool false, .slice none 0 0, .slice none 0 0]) rfl rfl rfl (fun b2 => (OW.nil (QW.then_n (CW.seq (CW.region (OW.rv (RV.assign rfl) rfl (OW.nil (QW.then_n (CW.seq (CW.region (OW.rv (RV.move rfl) rfl (OW.rv (RV.move rfl) rfl (OW.mem (M' := ((none, blk ((u8s ([] : List (BitVec 8))) ++ []) 5) :: (some b2, blk [.bool false, .slice none 0 0, .slice none 0 0] 89) :: ([] ++ N))) (fun w m => m.nil_ent _) (OW.appendOwn (s := 1) rfl rfl rfl rfl rfl rfl OwnS.nil (fun w m => va0.rd w (More.of hΦ 2 m rfl)) va0.n (u8s_one _) (va0.zero (by decide)) (by decide) (by decide) (by first | omega | (simp only [i5, List.length_nil]; omega)) rfl rfl (a0.length) (u8s a0) (Nat.zero_add _) rfl (fun ob3 r4 c5 o6 => ?_))))))))))))))))))
 have m7 := o6.mx
 refine OW.rv (RV.assign rfl) rfl (OW.nil (QW.then_n (CW.seq (CW.region (OW.rv (RV.move rfl) rfl (OW.rv (RV.buildSt (l := [.bool false, .slice none 0 0, .slice none 0 0]) (cs := [.bool false, sl ob3 0 a0.length c5, .slice none 0 0]) [(1, [sl ob3 0 a0.length c5])] rfl rfl rfl rfl rfl rfl rfl) rfl (OW.rot1 ?_)))))))
 refine OW.sv (SV.storeW rfl rfl rfl (by intro u hu; simp at hu; rcases hu with rfl | rfl | rfl <;> rfl) rfl rfl rfl) ?_
 refine OW.nil (QW.then_n (CW.ret (QW.mem (M' := (some b2, blk [.bool false, sl ob3 0 a0.length c5, .slice none 0 0] 89) :: (((ob3, blk ((u8s a0) ++ r4) 5) :: []) ++ N)) (fun w m => m.pick [0, 1] 2 rfl rfl) ?_)))
 have gq1 : ∀ w, More w0 Φ ((ob3, blk ((u8s a0) ++ r4) 5) :: []) w → More w0 Φ [] w := fun w q => More.mono (fun w m => (m).tail) q
 replace va0 := va0.mono gq1
 have v8 : View (More w0 Φ ((ob3, blk ((u8s a0) ++ r4) 5) :: [])) ((ob3).map fun k => ⟨k, 0, none⟩) a0.length c5 1 (u8s a0) := o6.view (by decide) (fun w q => q.2.sublist (List.singleton_sublist.2 (List.mem_cons_self ..)))
 have e0 := Option.some.inj hf
 subst e0
 have v9 : View (More w0 Φ ((ob3, blk ((u8s a0) ++ r4) 5) :: [])) none ([] : List (It)).length 0 3 [] := View.nil
 refine QW.retG (rs := [.cell 2 89]) ([.agg [.bool false, .slice ((ob3).map fun k => ⟨k, 0, none⟩) a0.length c5, .slice none 0 0].toArray]) (((ob3, blk ((u8s a0) ++ r4) 5) :: [])) rfl ?_ rfl ?_ ?_ _ (.inl rfl)
 ·exact ⟨⟨_, _, _, _, rfl, (List.Mem.head _), rfl, rfl, rfl, rfl⟩, trivial⟩
 ·exact ⟨((ob3, blk ((u8s a0) ++ r4) 5) :: []), [.bool false, .slice ((ob3).map fun k => ⟨k, 0, none⟩) a0.length c5, .slice none 0 0], (ItRd.mk v8 v9 (Reps.nil)), rfl, rfl⟩
 ·exact (fun w m => m.pick [] 1 rfl rfl)
theorem waybillref17_logItem_does (w0 : World) (Φ : Ctx) (N : List Ent) (hΦ : ∀ w, Mem w0 w N → Φ w) (cs0_ : List Value) (a0 : Log) (res0 : It) (ha0 : LogRd Φ cs0_ a0) (hf : waybillref17_logItem a0 = some res0) : DoesG Tryd.prog 91 [.agg cs0_.toArray] w0 [] N (fun v G => ∃ B : List Ent, ∃ cr0 : List Value, (ItRd (More w0 Φ B) cr0 res0) ∧ v = .agg cr0.toArray ∧ G = B) := by
 unfold waybillref17_logItem at hf
 replace ha0 := LogRd.mono (Ψ := More w0 Φ []) (fun w q => q.1) _ _ ha0
 have h10 := ha0
 obtain ⟨A1, c2, cs4, A6, c7, e9, v3, h5, v8⟩ := LogRd.opn ha0
 subst e9
 have m11 := v3.mx
 have m12 := v8.mx
 refine DoesG.enter Tryd.func91 rfl Tryd.ntmps91 rfl (M := (([] ++ N))) rfl (CW.seq (CW.region (OW.boxA rfl rfl (fun b13 => (OW.alloc (l := [.bool false, .slice none 0 0, .slice none 0 0]) rfl rfl rfl (fun b14 => (OW.nil (QW.then_n (CW.seq (CW.region (OW.rv (RV.buildSt (l := [.bool false, .slice none 0 0, .slice none 0 0]) (cs := [.bool true, .slice none 0 0, .slice none 0 0]) [(0, [.bool true])] rfl rfl rfl rfl rfl rfl rfl) rfl (OW.alloc (l := [.bool false, .slice none 0 0, .slice none 0 0]) rfl rfl rfl (fun b15 => ?_)))))))))))))
 refine OW.sv (SV.storeW rfl rfl rfl (by intro u hu; simp at hu; rcases hu with rfl | rfl | rfl <;> rfl) rfl rfl rfl) ?_
 refine OW.nil (QW.then_n (CW.seq (CW.seq (CW.region (OW.rv (RV.assign rfl) rfl (OW.nil (QW.then_n ?_)))))))
 obtain ⟨q16, hq17, hf⟩ := some_bind hf
 refine CW.cutJ (fun L' M' => ∃ p20 : Bool, ∃ l21 : List (BitVec 8), ∃ l26 : List (It), ∃ B18 : List Ent, ∃ ob22 : Option Nat, ∃ c23 : Nat, ∃ r24 : List Value, ∃ cs27 : List Value, ∃ ob29 : Option Nat, ∃ c30 : Nat, ∃ r31 : List Value, q16 = (p20, l21, l26) ∧ (∀ w, Mem w0 w B18 → Mem w0 w []) ∧ (OwnS ob22 l21.length c23 1 (u8s l21) r24) ∧ (Reps (ItRd (More w0 Φ B18)) cs27 l26) ∧ (OwnS ob29 l26.length c30 3 cs27 r31) ∧ L' = [(1, ptr (some b13) 0), (2, ptr (some b14) 0), (3, ptr (some b15) 0)] ∧ M' = ((ob22, blk ((u8s l21) ++ r24) 5) :: (ob29, blk (cs27 ++ r31) 89) :: (some b15, blk [.bool (p20), sl ob22 0 l21.length c23, sl ob29 0 l26.length c30] 89) :: (some b14, blk [.bool false, .slice none 0 0, .slice none 0 0] 89) :: (some b13, blk (⟨a0.address, .slice A1 a0.topics.length c2, .slice A6 a0.data.length c7⟩ : LogC).C 63) :: (B18 ++ N))) ?_ ?_
 ·rintro L34 M35 ⟨p20, l21, l26, B18, ob22, c23, r24, cs27, ob29, c30, r31, e33, hB19, o25, h28, o32, e36, e37⟩
  rw [e36, e37]
  clear e36 e37 L34 M35
  clear hq17
  rw [e33] at hf
  clear e33
  try dsimp only at hf
  have gq1 : ∀ w, More w0 Φ B18 w → More w0 Φ [] w := fun w q => More.mono (fun w m => hB19 w (m)) q
  replace h10 := LogRd.mono gq1 _ _ h10
  replace v3 := v3.mono gq1
  replace h5 := h5.mono (Ar8Rd.mono gq1)
  replace v8 := v8.mono gq1
  have m38 := o25.mx
  have m39 := o32.mx
  refine QW.then_n (CW.seq (CW.region (OW.rv (RV.field rfl rfl rfl rfl) rfl (OW.slot (ptr (some b13) 0) rfl (OW.rv (RV.loadAo rfl (List.Mem.tail _ (List.Mem.tail _ (List.Mem.tail _ (List.Mem.tail _ (List.Mem.head _))))) rfl rfl rfl rfl (LogC.C_address_all (⟨a0.address, .slice A1 a0.topics.length c2, .slice A6 a0.data.length c7⟩ : LogC)) ((u8s_length _).trans Vector.length_toList)) rfl (OW.alloc (l := (u8s (Vector.replicate 20 0#8).toList)) rfl (by rw [Vector.toList_replicate, ← u8s_rep']; rfl) rfl (fun b40 => (OW.sv (SV.storeW rfl rfl rfl (u8s_one _) rfl ((u8s_length _).trans Vector.length_toList) ((u8s_length _).trans Vector.length_toList)) (OW.nil (QW.then_n (CW.seq (CW.mem (M' := (ob22, blk ((u8s l21) ++ r24) 5) :: (ob29, blk (cs27 ++ r31) 89) :: (some b15, blk [.bool (p20), sl ob22 0 l21.length c23, sl ob29 0 l26.length c30] 89) :: (some b14, blk [.bool false, .slice none 0 0, .slice none 0 0] 89) :: (some b13, blk (⟨a0.address, .slice A1 a0.topics.length c2, .slice A6 a0.data.length c7⟩ : LogC).C 63) :: (((some b40, blk (u8s a0.address.toList) 60) :: B18) ++ N)) (fun w m => m.pick [1, 2, 3, 4, 5, 0] 6 rfl rfl) ?_))))))))))))
  have gq2 : ∀ w, More w0 Φ ((some b40, blk (u8s a0.address.toList) 60) :: B18) w → More w0 Φ B18 w := fun w q => More.mono (fun w m => (m).tail) q
  replace h28 := h28.mono (ItRd.mono gq2)
  replace h10 := LogRd.mono gq2 _ _ h10
  replace v3 := v3.mono gq2
  replace h5 := h5.mono (Ar8Rd.mono gq2)
  replace v8 := v8.mono gq2
  have v41 : View (More w0 Φ ((some b40, blk (u8s a0.address.toList) 60) :: B18)) (some ⟨b40, 0, none⟩) a0.address.toList.length 20 1 (u8s a0.address.toList) := View.arr (w0 := w0) (te := 60) (fun w q => q.2.sublist (List.singleton_sublist.2 (List.mem_cons_self ..))) (by decide)
  refine CW.mem (M' := (ob29, blk (cs27 ++ r31) 89) :: (some b15, blk [.bool (p20), sl ob22 0 l21.length c23, sl ob29 0 l26.length c30] 89) :: (some b14, blk [.bool false, .slice none 0 0, .slice none 0 0] 89) :: (some b13, blk (⟨a0.address, .slice A1 a0.topics.length c2, .slice A6 a0.data.length c7⟩ : LogC).C 63) :: (((ob22, blk ((u8s l21) ++ r24) 5) :: ((some b40, blk (u8s a0.address.toList) 60) :: B18)) ++ N)) (fun w m => m.pick [1, 2, 3, 4, 0] 5 rfl rfl) ?_
  have gq3 : ∀ w, More w0 Φ ((ob22, blk ((u8s l21) ++ r24) 5) :: ((some b40, blk (u8s a0.address.toList) 60) :: B18)) w → More w0 Φ ((some b40, blk (u8s a0.address.toList) 60) :: B18) w := fun w q => More.mono (fun w m => (m).tail) q
  replace v41 := v41.mono gq3
  replace h28 := h28.mono (ItRd.mono gq3)
  replace h10 := LogRd.mono gq3 _ _ h10
  replace v3 := v3.mono gq3
  replace h5 := h5.mono (Ar8Rd.mono gq3)
  replace v8 := v8.mono gq3
  have v42 : View (More w0 Φ ((ob22, blk ((u8s l21) ++ r24) 5) :: ((some b40, blk (u8s a0.address.toList) 60) :: B18))) ((ob22).map fun k => ⟨k, 0, none⟩) l21.length c23 1 (u8s l21) := o25.view (by decide) (fun w q => q.2.sublist (List.singleton_sublist.2 (List.mem_cons_self ..)))
  refine CW.mem (M' := (some b15, blk [.bool (p20), .slice ((ob22).map fun k => ⟨k, 0, none⟩) l21.length c23, sl ob29 0 l26.length c30] 89) :: (some b14, blk [.bool false, .slice none 0 0, .slice none 0 0] 89) :: (some b13, blk (⟨a0.address, .slice A1 a0.topics.length c2, .slice A6 a0.data.length c7⟩ : LogC).C 63) :: (((ob29, blk (cs27 ++ r31) 89) :: ((ob22, blk ((u8s l21) ++ r24) 5) :: ((some b40, blk (u8s a0.address.toList) 60) :: B18))) ++ N)) (fun w m => m.pick [1, 2, 3, 0] 4 rfl rfl) ?_
  have gq4 : ∀ w, More w0 Φ ((ob29, blk (cs27 ++ r31) 89) :: ((ob22, blk ((u8s l21) ++ r24) 5) :: ((some b40, blk (u8s a0.address.toList) 60) :: B18))) w → More w0 Φ ((ob22, blk ((u8s l21) ++ r24) 5) :: ((some b40, blk (u8s a0.address.toList) 60) :: B18)) w := fun w q => More.mono (fun w m => (m).tail) q
  replace v41 := v41.mono gq4
  replace v42 := v42.mono gq4
  replace h28 := h28.mono (ItRd.mono gq4)
  replace h10 := LogRd.mono gq4 _ _ h10
  replace v3 := v3.mono gq4
  replace h5 := h5.mono (Ar8Rd.mono gq4)
  replace v8 := v8.mono gq4
  have v43 : View (More w0 Φ ((ob29, blk (cs27 ++ r31) 89) :: ((ob22, blk ((u8s l21) ++ r24) 5) :: ((some b40, blk (u8s a0.address.toList) 60) :: B18)))) ((ob29).map fun k => ⟨k, 0, none⟩) l26.length c30 3 cs27 := o32.view (by decide) (fun w q => q.2.sublist (List.singleton_sublist.2 (List.mem_cons_self ..)))
  refine CW.drawsX ((some b15, blk [.bool (p20), .slice ((ob22).map fun k => ⟨k, 0, none⟩) l21.length c23, .slice ((ob29).map fun k => ⟨k, 0, none⟩) l26.length c30] 89) :: (some b13, blk (⟨a0.address, .slice A1 a0.topics.length c2, .slice A6 a0.data.length c7⟩ : LogC).C 63) :: (((ob29, blk (cs27 ++ r31) 89) :: ((ob22, blk ((u8s l21) ++ r24) 5) :: ((some b40, blk (u8s a0.address.toList) 60) :: B18))) ++ N)) [8] (fun w m => m.pick [0, 2] 3 rfl rfl) mixed (by kernel_rfl) (XW.rs 0 rfl (by kernel_rfl) rfl (RV.arr_all rfl rfl rfl) rfl ?_)
  refine XW.slot (.slice (some ⟨b40, 0, none⟩) a0.address.toList.length 20) (by rw [Vector.length_toList]; try rfl) ?_
  have v44 := v41
  have m45 := v44.mx
  refine XW.rs 2 rfl (by kernel_rfl) rfl (RV.loadW rfl (List.Mem.head _) rfl rfl rfl rfl rfl) rfl (XW.rs 3 rfl (by kernel_rfl) rfl (RV.field rfl rfl rfl rfl) rfl (XW.slot (ptr (some b13) 21) rfl (XW.rs 4 rfl (by kernel_rfl) rfl (RV.load rfl (List.Mem.tail _ (List.Mem.head _)) rfl rfl rfl (LogC.C_data (⟨a0.address, .slice A1 a0.topics.length c2, .slice A6 a0.data.length c7⟩ : LogC))) rfl ?_)))
  obtain ⟨x47, hx46, hf⟩ := some_bind hf
  refine XW.callG 1 rfl (by kernel_rfl) rfl Tryd.call52 rfl (fun N' hN' => waybillref17_text_does w0 (More w0 Φ ((ob29, blk (cs27 ++ r31) 89) :: ((ob22, blk ((u8s l21) ++ r24) 5) :: ((some b40, blk (u8s a0.address.toList) 60) :: B18)))) N' (fun w m => More.of hΦ 3 (hN' w m) rfl) (some ⟨b40, 0, none⟩) 20 a0.address.toList x47 v44 hx46) rfl ?_
  rintro L51 M52 ⟨B48, cs49, h50, e53, e54⟩
  rw [e53, e54]
  clear e53 e54 L51 M52
  refine XW.mem (M' := ((some b15, blk [.bool (p20), .slice ((ob22).map fun k => ⟨k, 0, none⟩) l21.length c23, .slice ((ob29).map fun k => ⟨k, 0, none⟩) l26.length c30] 89) :: (some b14, blk [.bool false, .slice none 0 0, .slice none 0 0] 89) :: (some b13, blk (⟨a0.address, .slice A1 a0.topics.length c2, .slice A6 a0.data.length c7⟩ : LogC).C 63) :: ((B48 ++ ((ob29, blk (cs27 ++ r31) 89) :: ((ob22, blk ((u8s l21) ++ r24) 5) :: ((some b40, blk (u8s a0.address.toList) 60) :: B18)))) ++ N))) (fun w m => by have h := Mem.sinkAt (A := B48) m 0 3 rfl rfl; exact h) (fun w m => by have h := Mem.shrink (B := ((ob29, blk (cs27 ++ r31) 89) :: ((ob22, blk ((u8s l21) ++ r24) 5) :: ((some b40, blk (u8s a0.address.toList) 60) :: B18)))) (B' := (B48 ++ ((ob29, blk (cs27 ++ r31) 89) :: ((ob22, blk ((u8s l21) ++ r24) 5) :: ((some b40, blk (u8s a0.address.toList) 60) :: B18))))) (List.sublist_append_right _ _) (m.pick [0, 2] 3 rfl rfl) 2 rfl; exact h) ?_
  have gq5 : ∀ w, More w0 Φ (B48 ++ ((ob29, blk (cs27 ++ r31) 89) :: ((ob22, blk ((u8s l21) ++ r24) 5) :: ((some b40, blk (u8s a0.address.toList) 60) :: B18)))) w → More w0 Φ ((ob29, blk (cs27 ++ r31) 89) :: ((ob22, blk ((u8s l21) ++ r24) 5) :: ((some b40, blk (u8s a0.address.toList) 60) :: B18))) w := fun w q => More.mono (fun w m => (m).appR) q
  replace v41 := v41.mono gq5
  replace v44 := v44.mono gq5
  replace v42 := v42.mono gq5
  replace v43 := v43.mono gq5
  replace h28 := h28.mono (ItRd.mono gq5)
  replace v8 := v8.mono gq5
  replace h10 := LogRd.mono gq5 _ _ h10
  replace v3 := v3.mono gq5
  replace h5 := h5.mono (Ar8Rd.mono gq5)
  replace h50 := ItRd.mono (Ψ := (More w0 Φ (B48 ++ ((ob29, blk (cs27 ++ r31) 89) :: ((ob22, blk ((u8s l21) ++ r24) 5) :: ((some b40, blk (u8s a0.address.toList) 60) :: B18)))))) (fun w q => More.flat q) _ _ h50
  have h64 := h50
  obtain ⟨A55, c56, A58, c59, cs61, e63, v57, v60, h62⟩ := ItRd.opn h50
  subst e63
  have m65 := v57.mx
  have m66 := v60.mx
  have m67 := v57.mx
  have m68 := v60.mx
  obtain ⟨x70, hx69, hf⟩ := some_bind hf
  refine XW.callG 5 rfl (by kernel_rfl) rfl Tryd.call52 rfl (fun N' hN' => waybillref17_text_does w0 (More w0 Φ (B48 ++ ((ob29, blk (cs27 ++ r31) 89) :: ((ob22, blk ((u8s l21) ++ r24) 5) :: ((some b40, blk (u8s a0.address.toList) 60) :: B18))))) N' (fun w m => More.of hΦ 3 (hN' w m) rfl) A6 c7 a0.data x70 v8 hx69) rfl ?_
  rintro L74 M75 ⟨B71, cs72, h73, e76, e77⟩
  rw [e76, e77]
  clear e76 e77 L74 M75
  refine XW.mem (M' := ((some b15, blk [.bool (p20), .slice ((ob22).map fun k => ⟨k, 0, none⟩) l21.length c23, .slice ((ob29).map fun k => ⟨k, 0, none⟩) l26.length c30] 89) :: (some b14, blk [.bool false, .slice none 0 0, .slice none 0 0] 89) :: (some b13, blk (⟨a0.address, .slice A1 a0.topics.length c2, .slice A6 a0.data.length c7⟩ : LogC).C 63) :: ((B71 ++ (B48 ++ ((ob29, blk (cs27 ++ r31) 89) :: ((ob22, blk ((u8s l21) ++ r24) 5) :: ((some b40, blk (u8s a0.address.toList) 60) :: B18))))) ++ N))) (fun w m => by have h := Mem.sinkAt (A := B71) m 0 3 rfl rfl; exact h) (fun w m => by have h := Mem.shrink (B := ((ob29, blk (cs27 ++ r31) 89) :: ((ob22, blk ((u8s l21) ++ r24) 5) :: ((some b40, blk (u8s a0.address.toList) 60) :: B18)))) (B' := (B71 ++ (B48 ++ ((ob29, blk (cs27 ++ r31) 89) :: ((ob22, blk ((u8s l21) ++ r24) 5) :: ((some b40, blk (u8s a0.address.toList) 60) :: B18)))))) ((List.sublist_append_right _ _).trans (List.sublist_append_right _ _)) (m.pick [0, 2] 3 rfl rfl) 2 rfl; exact h) ?_
  have gq6 : ∀ w, More w0 Φ (B71 ++ (B48 ++ ((ob29, blk (cs27 ++ r31) 89) :: ((ob22, blk ((u8s l21) ++ r24) 5) :: ((some b40, blk (u8s a0.address.toList) 60) :: B18))))) w → More w0 Φ (B48 ++ ((ob29, blk (cs27 ++ r31) 89) :: ((ob22, blk ((u8s l21) ++ r24) 5) :: ((some b40, blk (u8s a0.address.toList) 60) :: B18)))) w := fun w q => More.mono (fun w m => (m).appR) q
  replace v41 := v41.mono gq6
  replace v44 := v44.mono gq6
  replace v42 := v42.mono gq6
  replace v43 := v43.mono gq6
  replace h28 := h28.mono (ItRd.mono gq6)
  replace v8 := v8.mono gq6
  replace h64 := ItRd.mono gq6 _ _ h64
  replace v57 := v57.mono gq6
  replace v60 := v60.mono gq6
  replace h62 := h62.mono (ItRd.mono gq6)
  replace h10 := LogRd.mono gq6 _ _ h10
  replace v3 := v3.mono gq6
  replace h5 := h5.mono (Ar8Rd.mono gq6)
  replace h73 := ItRd.mono (Ψ := (More w0 Φ (B71 ++ (B48 ++ ((ob29, blk (cs27 ++ r31) 89) :: ((ob22, blk ((u8s l21) ++ r24) 5) :: ((some b40, blk (u8s a0.address.toList) 60) :: B18))))))) (fun w q => More.flat q) _ _ h73
  have h87 := h73
  obtain ⟨A78, c79, A81, c82, cs84, e86, v80, v83, h85⟩ := ItRd.opn h73
  subst e86
  have m88 := v80.mx
  have m89 := v83.mx
  have m90 := v80.mx
  have m91 := v83.mx
  refine XW.new 6 rfl (by kernel_rfl) rfl (NV.bsA rfl rfl (by intro x hx; simp at hx; rcases hx with rfl | rfl | rfl <;> exact rfl) rfl rfl rfl (by decide) (by decide) rfl) rfl (fun b92 => ?_)
  have h95 : Reps (ItRd (More w0 Φ (B71 ++ (B48 ++ ((ob29, blk (cs27 ++ r31) 89) :: ((ob22, blk ((u8s l21) ++ r24) 5) :: ((some b40, blk (u8s a0.address.toList) 60) :: B18))))))) (([.bool (x47.list), .slice A55 x47.data.length c56, .slice A58 x47.items.length c59] : List Value) ++ ([.bool (p20), .slice ((ob22).map fun k => ⟨k, 0, none⟩) l21.length c23, .slice ((ob29).map fun k => ⟨k, 0, none⟩) l26.length c30] : List Value) ++ ([.bool (x70.list), .slice A78 x70.data.length c79, .slice A81 x70.items.length c82] : List Value)) [x47, (It.mk (p20) l21 l26), x70] := by simpa using (show Reps (ItRd (More w0 Φ (B71 ++ (B48 ++ ((ob29, blk (cs27 ++ r31) 89) :: ((ob22, blk ((u8s l21) ++ r24) 5) :: ((some b40, blk (u8s a0.address.toList) 60) :: B18))))))) _ [x47, (It.mk (p20) l21 l26), x70] from (.cons h64 (.cons (ItRd.mk v42 v43 h28) (.cons h87 .nil))))
  refine XW.mem (M' := (((some b92), blk ((([.bool (x47.list), .slice A55 x47.data.length c56, .slice A58 x47.items.length c59] : List Value) ++ ([.bool (p20), .slice ((ob22).map fun k => ⟨k, 0, none⟩) l21.length c23, .slice ((ob29).map fun k => ⟨k, 0, none⟩) l26.length c30] : List Value) ++ ([.bool (x70.list), .slice A78 x70.data.length c79, .slice A81 x70.items.length c82] : List Value)) ++ []) 89) :: (some b15, blk [.bool (p20), .slice ((ob22).map fun k => ⟨k, 0, none⟩) l21.length c23, .slice ((ob29).map fun k => ⟨k, 0, none⟩) l26.length c30] 89) :: (some b14, blk [.bool false, .slice none 0 0, .slice none 0 0] 89) :: (some b13, blk (⟨a0.address, .slice A1 a0.topics.length c2, .slice A6 a0.data.length c7⟩ : LogC).C 63) :: ((B71 ++ (B48 ++ ((ob29, blk (cs27 ++ r31) 89) :: ((ob22, blk ((u8s l21) ++ r24) 5) :: ((some b40, blk (u8s a0.address.toList) 60) :: B18))))) ++ N))) (fun w m => m) (fun w m => by have h := Mem.shrink (B := ((ob29, blk (cs27 ++ r31) 89) :: ((ob22, blk ((u8s l21) ++ r24) 5) :: ((some b40, blk (u8s a0.address.toList) 60) :: B18)))) (B' := (B71 ++ (B48 ++ ((ob29, blk (cs27 ++ r31) 89) :: ((ob22, blk ((u8s l21) ++ r24) 5) :: ((some b40, blk (u8s a0.address.toList) 60) :: B18)))))) ((List.sublist_append_right _ _).trans (List.sublist_append_right _ _)) (m.pick [1, 3] 4 rfl rfl) 2 rfl; exact h) ?_
  have o93 : OwnS (some b92) ([x47, (It.mk (p20) l21 l26), x70] : List (It)).length 3 3 (([.bool (x47.list), .slice A55 x47.data.length c56, .slice A58 x47.items.length c59] : List Value) ++ ([.bool (p20), .slice ((ob22).map fun k => ⟨k, 0, none⟩) l21.length c23, .slice ((ob29).map fun k => ⟨k, 0, none⟩) l26.length c30] : List Value) ++ ([.bool (x70.list), .slice A78 x70.data.length c79, .slice A81 x70.items.length c82] : List Value)) [] := ⟨by simp [ItRd], by simp [ItRd], (fun h => nomatch h), by simp⟩
  have mx_o93 := o93.mx
  refine XW.slot (sl (some b92) 0 ([x47, (It.mk (p20) l21 l26), x70] : List (It)).length 3) (rfl) (XW.rs 7 rfl (by kernel_rfl) rfl (RV.buildSt (l := [.bool false, .slice none 0 0, .slice none 0 0]) (cs := [.bool true, .slice none 0 0, sl (some b92) 0 ([x47, (It.mk (p20) l21 l26), x70] : List (It)).length 3]) [(0, [.bool true]), (2, [sl (some b92) 0 ([x47, (It.mk (p20) l21 l26), x70] : List (It)).length 3])] rfl rfl rfl rfl rfl rfl rfl) rfl ?_)
  refine XW.mem (M' := ((some b14, blk [.bool false, .slice none 0 0, .slice none 0 0] 89) :: ((some b92), blk ((([.bool (x47.list), .slice A55 x47.data.length c56, .slice A58 x47.items.length c59] : List Value) ++ ([.bool (p20), .slice ((ob22).map fun k => ⟨k, 0, none⟩) l21.length c23, .slice ((ob29).map fun k => ⟨k, 0, none⟩) l26.length c30] : List Value) ++ ([.bool (x70.list), .slice A78 x70.data.length c79, .slice A81 x70.items.length c82] : List Value)) ++ []) 89) :: (some b15, blk [.bool (p20), .slice ((ob22).map fun k => ⟨k, 0, none⟩) l21.length c23, .slice ((ob29).map fun k => ⟨k, 0, none⟩) l26.length c30] 89) :: (some b13, blk (⟨a0.address, .slice A1 a0.topics.length c2, .slice A6 a0.data.length c7⟩ : LogC).C 63) :: ((B71 ++ (B48 ++ ((ob29, blk (cs27 ++ r31) 89) :: ((ob22, blk ((u8s l21) ++ r24) 5) :: ((some b40, blk (u8s a0.address.toList) 60) :: B18))))) ++ N))) (fun w m => m.pick [2, 0, 1] 3 rfl rfl) (fun w m => by have h := Mem.shrink (B := ((ob29, blk (cs27 ++ r31) 89) :: ((ob22, blk ((u8s l21) ++ r24) 5) :: ((some b40, blk (u8s a0.address.toList) 60) :: B18)))) (B' := (B71 ++ (B48 ++ ((ob29, blk (cs27 ++ r31) 89) :: ((ob22, blk ((u8s l21) ++ r24) 5) :: ((some b40, blk (u8s a0.address.toList) 60) :: B18)))))) ((List.sublist_append_right _ _).trans (List.sublist_append_right _ _)) (m.pick [2, 3] 4 rfl rfl) 2 rfl; exact h) ?_
  refine XW.sv 8 rfl (by kernel_rfl) (SV.storeW rfl rfl rfl (by intro u hu; simp at hu; rcases hu with rfl | rfl | rfl <;> rfl) rfl rfl rfl) (fun w m => by have h := Mem.shrink (B := ((ob29, blk (cs27 ++ r31) 89) :: ((ob22, blk ((u8s l21) ++ r24) 5) :: ((some b40, blk (u8s a0.address.toList) 60) :: B18)))) (B' := (B71 ++ (B48 ++ ((ob29, blk (cs27 ++ r31) 89) :: ((ob22, blk ((u8s l21) ++ r24) 5) :: ((some b40, blk (u8s a0.address.toList) 60) :: B18)))))) ((List.sublist_append_right _ _).trans (List.sublist_append_right _ _)) (m.pick [2, 3] 4 rfl rfl) 2 rfl; exact h) ?_
  refine XW.nil (by kernel_rfl) (QW.then_n (CW.ret (QW.mem (M' := (some b14, blk [.bool true, .slice none 0 0, sl (some b92) 0 ([x47, (It.mk (p20) l21 l26), x70] : List (It)).length 3] 89) :: (some b15, blk [.bool (p20), .slice ((ob22).map fun k => ⟨k, 0, none⟩) l21.length c23, .slice ((ob29).map fun k => ⟨k, 0, none⟩) l26.length c30] 89) :: (some b13, blk (⟨a0.address, .slice A1 a0.topics.length c2, .slice A6 a0.data.length c7⟩ : LogC).C 63) :: ((((some b92), blk ((([.bool (x47.list), .slice A55 x47.data.length c56, .slice A58 x47.items.length c59] : List Value) ++ ([.bool (p20), .slice ((ob22).map fun k => ⟨k, 0, none⟩) l21.length c23, .slice ((ob29).map fun k => ⟨k, 0, none⟩) l26.length c30] : List Value) ++ ([.bool (x70.list), .slice A78 x70.data.length c79, .slice A81 x70.items.length c82] : List Value)) ++ []) 89) :: (B71 ++ (B48 ++ ((ob29, blk (cs27 ++ r31) 89) :: ((ob22, blk ((u8s l21) ++ r24) 5) :: ((some b40, blk (u8s a0.address.toList) 60) :: B18)))))) ++ N)) (fun w m => m.pick [0, 2, 3, 1] 4 rfl rfl) ?_)))
  have gq7 : ∀ w, More w0 Φ (((some b92), blk ((([.bool (x47.list), .slice A55 x47.data.length c56, .slice A58 x47.items.length c59] : List Value) ++ ([.bool (p20), .slice ((ob22).map fun k => ⟨k, 0, none⟩) l21.length c23, .slice ((ob29).map fun k => ⟨k, 0, none⟩) l26.length c30] : List Value) ++ ([.bool (x70.list), .slice A78 x70.data.length c79, .slice A81 x70.items.length c82] : List Value)) ++ []) 89) :: (B71 ++ (B48 ++ ((ob29, blk (cs27 ++ r31) 89) :: ((ob22, blk ((u8s l21) ++ r24) 5) :: ((some b40, blk (u8s a0.address.toList) 60) :: B18)))))) w → More w0 Φ (B71 ++ (B48 ++ ((ob29, blk (cs27 ++ r31) 89) :: ((ob22, blk ((u8s l21) ++ r24) 5) :: ((some b40, blk (u8s a0.address.toList) 60) :: B18))))) w := fun w q => More.mono (fun w m => (m).tail) q
  replace v41 := v41.mono gq7
  replace v44 := v44.mono gq7
  replace v42 := v42.mono gq7
  replace v43 := v43.mono gq7
  replace h28 := h28.mono (ItRd.mono gq7)
  replace v8 := v8.mono gq7
  replace h64 := ItRd.mono gq7 _ _ h64
  replace v57 := v57.mono gq7
  replace v60 := v60.mono gq7
  replace h62 := h62.mono (ItRd.mono gq7)
  replace h87 := ItRd.mono gq7 _ _ h87
  replace v80 := v80.mono gq7
  replace v83 := v83.mono gq7
  replace h85 := h85.mono (ItRd.mono gq7)
  replace h95 := h95.mono (ItRd.mono gq7)
  replace h10 := LogRd.mono gq7 _ _ h10
  replace v3 := v3.mono gq7
  replace h5 := h5.mono (Ar8Rd.mono gq7)
  have v96 : View (More w0 Φ (((some b92), blk ((([.bool (x47.list), .slice A55 x47.data.length c56, .slice A58 x47.items.length c59] : List Value) ++ ([.bool (p20), .slice ((ob22).map fun k => ⟨k, 0, none⟩) l21.length c23, .slice ((ob29).map fun k => ⟨k, 0, none⟩) l26.length c30] : List Value) ++ ([.bool (x70.list), .slice A78 x70.data.length c79, .slice A81 x70.items.length c82] : List Value)) ++ []) 89) :: (B71 ++ (B48 ++ ((ob29, blk (cs27 ++ r31) 89) :: ((ob22, blk ((u8s l21) ++ r24) 5) :: ((some b40, blk (u8s a0.address.toList) 60) :: B18))))))) (((some b92)).map fun k => ⟨k, 0, none⟩) ([x47, (It.mk (p20) l21 l26), x70] : List (It)).length 3 3 (([.bool (x47.list), .slice A55 x47.data.length c56, .slice A58 x47.items.length c59] : List Value) ++ ([.bool (p20), .slice ((ob22).map fun k => ⟨k, 0, none⟩) l21.length c23, .slice ((ob29).map fun k => ⟨k, 0, none⟩) l26.length c30] : List Value) ++ ([.bool (x70.list), .slice A78 x70.data.length c79, .slice A81 x70.items.length c82] : List Value)) := o93.view (by decide) (fun w q => q.2.sublist (List.singleton_sublist.2 (List.mem_cons_self ..)))
  have e0 := Option.some.inj hf
  subst e0
  have v97 : View (More w0 Φ (((some b92), blk ((([.bool (x47.list), .slice A55 x47.data.length c56, .slice A58 x47.items.length c59] : List Value) ++ ([.bool (p20), .slice ((ob22).map fun k => ⟨k, 0, none⟩) l21.length c23, .slice ((ob29).map fun k => ⟨k, 0, none⟩) l26.length c30] : List Value) ++ ([.bool (x70.list), .slice A78 x70.data.length c79, .slice A81 x70.items.length c82] : List Value)) ++ []) 89) :: (B71 ++ (B48 ++ ((ob29, blk (cs27 ++ r31) 89) :: ((ob22, blk ((u8s l21) ++ r24) 5) :: ((some b40, blk (u8s a0.address.toList) 60) :: B18))))))) none ([] : List (BitVec 8)).length 0 1 (u8s []) := View.nil
  refine QW.retG (rs := [.cell 2 89]) ([.agg [.bool true, .slice none 0 0, .slice (((some b92)).map fun k => ⟨k, 0, none⟩) ([x47, (It.mk (p20) l21 l26), x70] : List (It)).length 3].toArray]) ((((some b92), blk ((([.bool (x47.list), .slice A55 x47.data.length c56, .slice A58 x47.items.length c59] : List Value) ++ ([.bool (p20), .slice ((ob22).map fun k => ⟨k, 0, none⟩) l21.length c23, .slice ((ob29).map fun k => ⟨k, 0, none⟩) l26.length c30] : List Value) ++ ([.bool (x70.list), .slice A78 x70.data.length c79, .slice A81 x70.items.length c82] : List Value)) ++ []) 89) :: (B71 ++ (B48 ++ ((ob29, blk (cs27 ++ r31) 89) :: ((ob22, blk ((u8s l21) ++ r24) 5) :: ((some b40, blk (u8s a0.address.toList) 60) :: B18))))))) rfl ?_ rfl ?_ ?_ _ (.inl rfl)
  ·exact ⟨⟨_, _, _, _, rfl, (List.Mem.head _), rfl, rfl, rfl, rfl⟩, trivial⟩
  ·exact ⟨(((some b92), blk ((([.bool (x47.list), .slice A55 x47.data.length c56, .slice A58 x47.items.length c59] : List Value) ++ ([.bool (p20), .slice ((ob22).map fun k => ⟨k, 0, none⟩) l21.length c23, .slice ((ob29).map fun k => ⟨k, 0, none⟩) l26.length c30] : List Value) ++ ([.bool (x70.list), .slice A78 x70.data.length c79, .slice A81 x70.items.length c82] : List Value)) ++ []) 89) :: (B71 ++ (B48 ++ ((ob29, blk (cs27 ++ r31) 89) :: ((ob22, blk ((u8s l21) ++ r24) 5) :: ((some b40, blk (u8s a0.address.toList) 60) :: B18)))))), [.bool true, .slice none 0 0, .slice (((some b92)).map fun k => ⟨k, 0, none⟩) ([x47, (It.mk (p20) l21 l26), x70] : List (It)).length 3], (ItRd.mk v97 v96 h95), rfl, rfl⟩
  ·exact (fun w m => m.pick [] 3 rfl rfl)
 ·skip
  refine CW.block (CW.mem (M' := ((none, blk ((u8s ([] : List (BitVec 8))) ++ []) 5) :: (some b15, blk [.bool true, .slice none 0 0, .slice none 0 0] 89) :: (some b14, blk [.bool false, .slice none 0 0, .slice none 0 0] 89) :: (some b13, blk (⟨a0.address, .slice A1 a0.topics.length c2, .slice A6 a0.data.length c7⟩ : LogC).C 63) :: ([] ++ N))) (fun w m => m.nil_ent _) (CW.mem (M' := ((none, blk ([] ++ []) 89) :: (none, blk ((u8s ([] : List (BitVec 8))) ++ []) 5) :: (some b15, blk [.bool true, .slice none 0 0, .slice none 0 0] 89) :: (some b14, blk [.bool false, .slice none 0 0, .slice none 0 0] 89) :: (some b13, blk (⟨a0.address, .slice A1 a0.topics.length c2, .slice A6 a0.data.length c7⟩ : LogC).C 63) :: ([] ++ N))) (fun w m => m.nil_ent _) (CW.loopJ (fun k L' M' => ∃ n100 : Nat, ∃ p102 : Bool, ∃ l103 : List (BitVec 8), ∃ l108 : List (It), ∃ B98 : List Ent, ∃ ob104 : Option Nat, ∃ c105 : Nat, ∃ r106 : List Value, ∃ cs109 : List Value, ∃ ob111 : Option Nat, ∃ c112 : Nat, ∃ r113 : List Value, (waybillref17_logItem.l1 a0 k n100 p102 l103 l108) = some q16 ∧ (∀ w, Mem w0 w B98 → Mem w0 w []) ∧ (n100 ≤ 9223372036854775807) ∧ (OwnS ob104 l103.length c105 1 (u8s l103) r106) ∧ (Reps (ItRd (More w0 Φ B98)) cs109 l108) ∧ (OwnS ob111 l108.length c112 3 cs109 r113) ∧ L' = [(1, ptr (some b13) 0), (2, ptr (some b14) 0), (3, ptr (some b15) 0), (4, .int .i64 ((n100 : Nat) : Int))] ∧ M' = ((ob104, blk ((u8s l103) ++ r106) 5) :: (ob111, blk (cs109 ++ r113) 89) :: (some b15, blk [.bool (p102), sl ob104 0 l103.length c105, sl ob111 0 l108.length c112] 89) :: (some b14, blk [.bool false, .slice none 0 0, .slice none 0 0] 89) :: (some b13, blk (⟨a0.address, .slice A1 a0.topics.length c2, .slice A6 a0.data.length c7⟩ : LogC).C 63) :: (B98 ++ N))) (k0 := (a0.topics.length - 0 + 2)) ⟨0, true, ([] : List (BitVec 8)), ([] : List (It)), [], none, 0, [], [], none, 0, [], hq17, (fun w m => m), (by omega), OwnS.nil, Reps.nil, OwnS.nil, rfl, rfl⟩ ⟨rfl, rfl, rfl, rfl, trivial⟩ (fun w m => m.pick [1, 0, 2, 3, 4] 5 rfl rfl) ?_)))
  clear hq17
  rintro k115 L118 M119 ⟨n100, p102, l103, l108, B98, ob104, c105, r106, cs109, ob111, c112, r113, hl116, hB99, b101, o107, h110, o114, e120, e121⟩
  rw [e120, e121]
  clear e120 e121 L118 M119
  rcases k115 with _ | k115
  ·rw [waybillref17_logItem.l1] at hl116; cases hl116
  rw [waybillref17_logItem.l1] at hl116
  have gq8 : ∀ w, More w0 Φ B98 w → More w0 Φ [] w := fun w q => More.mono (fun w m => hB99 w (m)) q
  replace h10 := LogRd.mono gq8 _ _ h10
  replace v3 := v3.mono gq8
  replace h5 := h5.mono (Ar8Rd.mono gq8)
  replace v8 := v8.mono gq8
  have m122 := o107.mx
  have m123 := o114.mx
  refine CW.seq (CW.seq (CW.region (OW.rv (RV.move rfl) rfl (OW.rv (RV.field rfl rfl rfl rfl) rfl (OW.slot (ptr (some b13) 20) rfl (OW.rv (RV.load rfl (List.Mem.tail _ (List.Mem.tail _ (List.Mem.tail _ (List.Mem.tail _ (List.Mem.head _))))) rfl rfl rfl (LogC.C_topics (⟨a0.address, .slice A1 a0.topics.length c2, .slice A6 a0.data.length c7⟩ : LogC))) rfl (OW.rv (RV.len rfl rfl) rfl (OW.rv (RV.lss rfl rfl) rfl (OW.slot (.bool (decide (n100 < a0.topics.length))) (congrArg Value.bool (decide_eq_decide.2 (by omega))) (OW.nil (QW.then_n ?_)))))))))))
  by_cases h124 : n100 < a0.topics.length
  ·replace hl116 := if_t hl116 h124
   refine CW.is_t rfl (decide_eq_true h124) (CW.skip (QW.then_n (CW.seq (CW.block (CW.seq (CW.region (OW.rv (RV.field rfl rfl rfl rfl) rfl (OW.slot (ptr (some b13) 20) rfl (OW.rv (RV.load rfl (List.Mem.tail _ (List.Mem.tail _ (List.Mem.tail _ (List.Mem.tail _ (List.Mem.head _))))) rfl rfl rfl (LogC.C_topics (⟨a0.address, .slice A1 a0.topics.length c2, .slice A6 a0.data.length c7⟩ : LogC))) rfl (OW.rv (RV.move rfl) rfl ?_))))))))))
   obtain ⟨x125, hx126, hl116⟩ := some_bind hl116
   have hl127 := lt_of_at hx126
   refine OW.rv (RV.idx_rs (n100) rfl rfl rfl rfl rfl (v3.isSome (by decide) hl127) (by omega)) rfl ?_
   obtain ⟨cs128, h129, h130⟩ := h5.get Ar8Rd.len hx126
   have h129a := h129
   subst h129a
   refine OW.rv (RV.loadAs rfl rfl rfl rfl (fun w m => v3.load (More.of hΦ 5 m rfl) h130) ((u8s_length _).trans Vector.length_toList)) rfl (OW.alloc (l := (u8s (Vector.replicate 32 0#8).toList)) rfl (by rw [Vector.toList_replicate, ← u8s_rep']; rfl) rfl (fun b131 => (OW.sv (SV.storeW rfl rfl rfl (u8s_one _) rfl ((u8s_length _).trans Vector.length_toList) ((u8s_length _).trans Vector.length_toList)) (OW.nil (QW.then_n (CW.drawsU 5 mixed (by kernel_rfl) rfl (UW.rv 0 rfl (by kernel_rfl) rfl (RV.field rfl rfl rfl rfl) rfl (UW.rv 1 rfl (by kernel_rfl) rfl (RV.load rfl (List.Mem.tail _ (List.Mem.tail _ (List.Mem.tail _ (List.Mem.head _)))) rfl rfl rfl rfl) rfl (UW.mem (M' := (ob104, blk ((u8s l103) ++ r106) 5) :: (ob111, blk (cs109 ++ r113) 89) :: (some b15, blk [.bool (p102), sl ob104 0 l103.length c105, sl ob111 0 l108.length c112] 89) :: (some b14, blk [.bool false, .slice none 0 0, .slice none 0 0] 89) :: (some b13, blk (⟨a0.address, .slice A1 a0.topics.length c2, .slice A6 a0.data.length c7⟩ : LogC).C 63) :: (((some b131, blk (u8s x125.toList) 24) :: B98) ++ N)) (fun w m => m.pick [1, 2, 3, 4, 5, 0] 6 rfl rfl) ?_)))))))))
   have gq9 : ∀ w, More w0 Φ ((some b131, blk (u8s x125.toList) 24) :: B98) w → More w0 Φ B98 w := fun w q => More.mono (fun w m => (m).tail) q
   replace v3 := v3.mono gq9
   replace h5 := h5.mono (Ar8Rd.mono gq9)
   replace h110 := h110.mono (ItRd.mono gq9)
   replace h10 := LogRd.mono gq9 _ _ h10
   replace v8 := v8.mono gq9
   have v132 : View (More w0 Φ ((some b131, blk (u8s x125.toList) 24) :: B98)) (some ⟨b131, 0, none⟩) x125.toList.length 32 1 (u8s x125.toList) := View.arr (w0 := w0) (te := 24) (fun w q => q.2.sublist (List.singleton_sublist.2 (List.mem_cons_self ..))) (by decide)
   refine UW.rv 2 rfl (by kernel_rfl) rfl (RV.arr_all rfl rfl rfl) rfl ?_
   refine UW.slot (.slice (some ⟨b131, 0, none⟩) x125.toList.length 32) (by rw [Vector.length_toList]; try rfl) ?_
   have v133 := v132
   have m134 := v133.mx
   obtain ⟨x136, hx135, hl116⟩ := some_bind hl116
   refine UW.callG 3 rfl (by kernel_rfl) rfl Tryd.call52 rfl (fun N' hN' => waybillref17_text_does w0 (More w0 Φ ((some b131, blk (u8s x125.toList) 24) :: B98)) N' (fun w m => More.of hΦ 5 (hN' w m) rfl) (some ⟨b131, 0, none⟩) 32 x125.toList x136 v133 hx135) rfl ?_
   rintro L140 M141 ⟨B137, cs138, h139, e142, e143⟩
   rw [e142, e143]
   clear e142 e143 L140 M141
   refine UW.mem (M' := ((ob104, blk ((u8s l103) ++ r106) 5) :: (ob111, blk (cs109 ++ r113) 89) :: (some b15, blk [.bool (p102), sl ob104 0 l103.length c105, sl ob111 0 l108.length c112] 89) :: (some b14, blk [.bool false, .slice none 0 0, .slice none 0 0] 89) :: (some b13, blk (⟨a0.address, .slice A1 a0.topics.length c2, .slice A6 a0.data.length c7⟩ : LogC).C 63) :: ((B137 ++ ((some b131, blk (u8s x125.toList) 24) :: B98)) ++ N))) (fun w m => by have h := Mem.sinkAt (A := B137) m 0 5 rfl rfl; exact h) ?_
   have gq10 : ∀ w, More w0 Φ (B137 ++ ((some b131, blk (u8s x125.toList) 24) :: B98)) w → More w0 Φ ((some b131, blk (u8s x125.toList) 24) :: B98) w := fun w q => More.mono (fun w m => (m).appR) q
   replace v3 := v3.mono gq10
   replace h5 := h5.mono (Ar8Rd.mono gq10)
   replace h110 := h110.mono (ItRd.mono gq10)
   replace v133 := v133.mono gq10
   replace h10 := LogRd.mono gq10 _ _ h10
   replace v8 := v8.mono gq10
   replace h139 := ItRd.mono (Ψ := (More w0 Φ (B137 ++ ((some b131, blk (u8s x125.toList) 24) :: B98)))) (fun w q => More.flat q) _ _ h139
   have h153 := h139
   obtain ⟨A144, c145, A147, c148, cs150, e152, v146, v149, h151⟩ := ItRd.opn h139
   subst e152
   have m154 := v146.mx
   have m155 := v149.mx
   have m156 := v146.mx
   have m157 := v149.mx
   refine UW.new 4 rfl (by kernel_rfl) rfl (NV.bsA rfl rfl (by intro x hx; simp at hx; subst hx; exact rfl) rfl rfl rfl (by decide) (by decide) rfl) rfl (fun b158 => ?_)
   have h161 : Reps (ItRd (More w0 Φ (B137 ++ ((some b131, blk (u8s x125.toList) 24) :: B98)))) (([.bool (x136.list), .slice A144 x136.data.length c145, .slice A147 x136.items.length c148] : List Value)) [x136] := Reps.one h153
   refine UW.mem (M' := (((some b158), blk ((([.bool (x136.list), .slice A144 x136.data.length c145, .slice A147 x136.items.length c148] : List Value)) ++ []) 89) :: (ob104, blk ((u8s l103) ++ r106) 5) :: (ob111, blk (cs109 ++ r113) 89) :: (some b15, blk [.bool (p102), sl ob104 0 l103.length c105, sl ob111 0 l108.length c112] 89) :: (some b14, blk [.bool false, .slice none 0 0, .slice none 0 0] 89) :: (some b13, blk (⟨a0.address, .slice A1 a0.topics.length c2, .slice A6 a0.data.length c7⟩ : LogC).C 63) :: ((B137 ++ ((some b131, blk (u8s x125.toList) 24) :: B98)) ++ N))) (fun w m => m) ?_
   have o159 : OwnS (some b158) ([x136] : List (It)).length 1 3 (([.bool (x136.list), .slice A144 x136.data.length c145, .slice A147 x136.items.length c148] : List Value)) [] := ⟨by simp [ItRd], by simp [ItRd], (fun h => nomatch h), by simp⟩
   have mx_o159 := o159.mx
   refine UW.slot (sl (some b158) 0 ([x136] : List (It)).length 1) (rfl) (UW.nil (by kernel_rfl) (OW.rot2 ?_))
   obtain ⟨g162, hl116⟩ := some_if hl116
   have h167 := h110.app h161
   refine OW.appendOwn (s := 3) rfl rfl rfl rfl rfl rfl o114 (fun w m => m.rd0 (List.Mem.tail _ (List.Mem.head _)) (fun e => o159.nilc (by decide) e)) o159.n (h161.cell1 ItRd.one) (o159.zeroO (by decide)) (by decide) (by decide) (by first | omega | (simp only [i89, List.length_nil]; omega)) rfl rfl ((l108 ++ ([x136] : List (It))).length) (cs109 ++ (([.bool (x136.list), .slice A144 x136.data.length c145, .slice A147 x136.items.length c148] : List Value))) (List.length_append ..).symm rfl (fun ob163 r164 c165 o166 => ?_)
   have m168 := o166.mx
   refine OW.rv (RV.field rfl rfl rfl rfl) rfl (OW.rot3 (OW.sv (SV.store rfl rfl rfl rfl rfl (by simp)) (OW.cells [.bool (p102), sl ob104 0 l103.length c105, sl ob163 0 (l108 ++ ([x136] : List (It))).length c165] rfl (OW.nil (QW.block_n (QW.then_n (CW.region (OW.rv (RV.move rfl) rfl (OW.rv (RV.add rfl rfl (by omega)) rfl (OW.slot (.int .i64 (((n100 + 1) : Nat) : Int)) (by first | rfl | (congr 1) | (congr 1; omega)) (OW.rv (RV.assign rfl) rfl (OW.nil ?_))))))))))))
   exact QW.againJ (k' := k115) (Nat.lt_succ_self _) ⟨(n100 + 1), (p102), l103, (l108 ++ ([x136] : List (It))), (B137 ++ ((some b131, blk (u8s x125.toList) 24) :: B98)), ob104, c105, r106, (cs109 ++ (([.bool (x136.list), .slice A144 x136.data.length c145, .slice A147 x136.items.length c148] : List Value))), ob163, c165, r164, hl116, (fun w m => hB99 w (((m).appR).tail)), (by omega), o107, h167, o166, rfl, rfl⟩ ⟨rfl, rfl, rfl, rfl, trivial⟩ (fun w m => m.pick [3, 1, 0, 4, 5] 6 rfl rfl)
  ·replace hl116 := if_f hl116 h124
   refine CW.is_f rfl (decide_eq_false h124) (CW.exit (QW.then_x (QW.then_x (QW.block_xe ?_))))
   exact QW.join ⟨(p102), l103, l108, B98, ob104, c105, r106, cs109, ob111, c112, r113, (Option.some.inj hl116).symm, (fun w m => hB99 w (m)), o107, h110, o114, rfl, rfl⟩ ⟨rfl, rfl, rfl, trivial⟩ (fun w m => m.pick [0, 1, 2, 3, 4] 5 rfl rfl)
theorem waybillref17_BloomOf_does (w0 : World) (Φ : Ctx) (N : List Ent) (hΦ : ∀ w, Mem w0 w N → Φ w) (A0_ : Option Addr) (c0_ : Nat) (cs0_ : List Value) (a0 : List (Log)) (res0 : Vector (BitVec 8) 256) (va0 : View Φ A0_ a0.length c0_ 22 cs0_) (ha0 : Reps (LogRd Φ) cs0_ a0) (hTn : ∀ i, i < 25 → w0.cell? ⟨4, i, none⟩ = some (.int .i64 (turnsL.getD i 0))) (hRn : ∀ i, i < 24 → w0.cell? ⟨3, i, none⟩ = some (U64 (g64 roundsL i))) (hf : waybillref17_BloomOf a0 = some res0) : DoesG Tryd.prog 29 [.slice A0_ a0.length c0_] w0 [] N (fun v G => v = .agg (u8s res0.toList).toArray) := by
 unfold waybillref17_BloomOf at hf
 replace va0 := va0.mono (Ψ := More w0 Φ []) (fun w q => q.1)
 replace ha0 := ha0.mono (LogRd.mono (Ψ := More w0 Φ []) (fun w q => q.1))
 have m1 := va0.mx
 refine DoesG.enter Tryd.func29 rfl Tryd.ntmps29 rfl (M := (([] ++ N))) rfl (CW.seq (CW.region (OW.alloc (l := (u8s (Vector.replicate 256 0#8).toList)) rfl (by rw [Vector.toList_replicate, ← u8s_rep']; rfl) rfl (fun b2 => (OW.nil (QW.then_n (CW.seq (CW.region (OW.rv (RV.assign rfl) rfl (OW.nil (QW.then_n (CW.seq (CW.seq (CW.region (OW.rv (RV.assign rfl) rfl (OW.nil (QW.then_n ?_)))))))))))))))))
 obtain ⟨q3, hq4, hf⟩ := some_bind hf
 refine CW.cutJ (fun L' M' => ∃ l7 : List (List (BitVec 8)), ∃ B5 : List Ent, ∃ cs8 : List Value, ∃ ob10 : Option Nat, ∃ c11 : Nat, ∃ r12 : List Value, q3 = l7 ∧ (∀ w, Mem w0 w B5 → Mem w0 w []) ∧ (Reps (BsRd (More w0 Φ B5)) cs8 l7) ∧ (OwnS ob10 l7.length c11 1 cs8 r12) ∧ L' = [(2, ptr (some b2) 0), (3, sl ob10 0 l7.length c11)] ∧ M' = ((ob10, blk (cs8 ++ r12) 61) :: (some b2, blk (u8s (Vector.replicate 256 0#8).toList) 27) :: (B5 ++ N))) ?_ ?_
 ·rintro L15 M16 ⟨l7, B5, cs8, ob10, c11, r12, e14, hB6, h9, o13, e17, e18⟩
  rw [e17, e18]
  clear e17 e18 L15 M16
  clear hq4
  rw [e14] at hf
  clear e14
  try dsimp only at hf
  have m19 := o13.mx
  refine QW.then_n (CW.seq (CW.region (OW.rv (RV.move rfl) rfl (OW.mem (M' := (some b2, blk (u8s (Vector.replicate 256 0#8).toList) 27) :: (((ob10, blk (cs8 ++ r12) 61) :: B5) ++ N)) (fun w m => m.pick [1, 0] 2 rfl rfl) ?_))))
  have gq1 : ∀ w, More w0 Φ ((ob10, blk (cs8 ++ r12) 61) :: B5) w → More w0 Φ B5 w := fun w q => More.mono (fun w m => (m).tail) q
  replace h9 := h9.mono (BsRd.mono gq1)
  have v20 : View (More w0 Φ ((ob10, blk (cs8 ++ r12) 61) :: B5)) ((ob10).map fun k => ⟨k, 0, none⟩) l7.length c11 1 cs8 := o13.view (by decide) (fun w q => q.2.sublist (List.singleton_sublist.2 (List.mem_cons_self ..)))
  obtain ⟨x22, hx21, hf⟩ := some_bind hf
  refine OW.callG Tryd.call53 rfl (waybillref10_Of_does w0 (More w0 Φ ((ob10, blk (cs8 ++ r12) 61) :: B5)) ((some b2, blk (u8s (Vector.replicate 256 0#8).toList) 27) :: (((ob10, blk (cs8 ++ r12) 61) :: B5) ++ N)) (fun w m => More.of hΦ 1 m rfl) ((ob10).map fun k => ⟨k, 0, none⟩) c11 cs8 l7 x22 v20 h9 hTn hRn hx21) rfl rfl ?_
  rintro _ G23 rfl
  refine OW.mem (M' := ((some b2, blk (u8s (Vector.replicate 256 0#8).toList) 27) :: (((ob10, blk (cs8 ++ r12) 61) :: B5) ++ N))) (fun w m => m.appR) (OW.sv (SV.storeW rfl rfl rfl (u8s_one _) rfl ((u8s_length _).trans Vector.length_toList) ((u8s_length _).trans Vector.length_toList)) (OW.nil (QW.then_n (CW.ret ?_))))
  have e0 := Option.some.inj hf
  subst e0
  refine QW.retG (rs := [.cell 2 27]) ([.agg (u8s x22.toList).toArray]) ((some b2, blk (u8s x22.toList) 27) :: ((ob10, blk (cs8 ++ r12) 61) :: B5)) rfl ?_ rfl ?_ ?_ _ (.inl rfl)
  ·exact ⟨⟨_, _, _, _, rfl, (List.Mem.head _), rfl, rfl, (congrArg some ((u8s_length _).trans Vector.length_toList).symm), rfl⟩, trivial⟩
  ·exact rfl
  ·exact (fun w m => m)
 ·skip
  refine CW.block (CW.mem (M' := ((none, blk ([] ++ []) 61) :: (some b2, blk (u8s (Vector.replicate 256 0#8).toList) 27) :: ([] ++ N))) (fun w m => m.nil_ent _) (CW.loopJ (fun k L' M' => ∃ l27 : List (List (BitVec 8)), ∃ n34 : Nat, ∃ B25 : List Ent, ∃ cs28 : List Value, ∃ ob30 : Option Nat, ∃ c31 : Nat, ∃ r32 : List Value, (waybillref17_BloomOf.l1 a0 k l27 n34) = some q3 ∧ (∀ w, Mem w0 w B25 → Mem w0 w []) ∧ (Reps (BsRd (More w0 Φ B25)) cs28 l27) ∧ (OwnS ob30 l27.length c31 1 cs28 r32) ∧ (n34 ≤ 9223372036854775807) ∧ L' = [(0, .slice A0_ a0.length c0_), (2, ptr (some b2) 0), (3, sl ob30 0 l27.length c31), (4, .int .i64 ((n34 : Nat) : Int))] ∧ M' = ((ob30, blk (cs28 ++ r32) 61) :: (some b2, blk (u8s (Vector.replicate 256 0#8).toList) 27) :: (B25 ++ N))) (k0 := (a0.length - 0 + 2)) ⟨([] : List (List (BitVec 8))), 0, [], [], none, 0, [], hq4, (fun w m => m), Reps.nil, OwnS.nil, (by omega), rfl, rfl⟩ ⟨rfl, rfl, rfl, rfl, trivial⟩ (fun w m => m.pick [0, 1] 2 rfl rfl) ?_))
  clear hq4
  rintro k36 L39 M40 ⟨l27, n34, B25, cs28, ob30, c31, r32, hl37, hB26, h29, o33, b35, e41, e42⟩
  rw [e41, e42]
  clear e41 e42 L39 M40
  rcases k36 with _ | k36
  ·rw [waybillref17_BloomOf.l1] at hl37; cases hl37
  rw [waybillref17_BloomOf.l1] at hl37
  have gq2 : ∀ w, More w0 Φ B25 w → More w0 Φ [] w := fun w q => More.mono (fun w m => hB26 w (m)) q
  replace va0 := va0.mono gq2
  replace ha0 := ha0.mono (LogRd.mono gq2)
  have m43 := o33.mx
  refine CW.seq (CW.seq (CW.region (OW.rv (RV.move rfl) rfl (OW.rv (RV.move rfl) rfl (OW.rv (RV.len rfl rfl) rfl (OW.rv (RV.lss rfl rfl) rfl (OW.slot (.bool (decide (n34 < a0.length))) (congrArg Value.bool (decide_eq_decide.2 (by omega))) (OW.nil (QW.then_n ?_)))))))))
  by_cases h44 : n34 < a0.length
  ·replace hl37 := if_t hl37 h44
   refine CW.is_t rfl (decide_eq_true h44) (CW.skip (QW.then_n (CW.seq (CW.block (CW.seq (CW.region (OW.rv (RV.move rfl) rfl (OW.rv (RV.move rfl) rfl ?_))))))))
   obtain ⟨x45, hx46, hl37⟩ := some_bind hl37
   have hl47 := lt_of_at hx46
   refine OW.rv (RV.idx_rs (n34) rfl rfl rfl rfl rfl (va0.isSome (by decide) hl47) (by omega)) rfl ?_
   obtain ⟨cs48, h49, h50⟩ := ha0.get LogRd.len hx46
   have h60 := h49
   obtain ⟨A51, c52, cs54, A56, c57, e59, v53, h55, v58⟩ := LogRd.opn h49
   subst e59
   have m61 := v53.mx
   have m62 := v58.mx
   refine OW.rv (RV.field_at rfl rfl rfl rfl) rfl (OW.rv (RV.loadAs rfl rfl rfl rfl (fun w m => va0.load_part (More.of hΦ 2 m rfl) h50 (LogC.C_address_all (⟨x45.address, .slice A51 x45.topics.length c52, .slice A56 x45.data.length c57⟩ : LogC))) ((u8s_length _).trans Vector.length_toList)) rfl (OW.alloc (l := (u8s (Vector.replicate 20 0#8).toList)) rfl (by rw [Vector.toList_replicate, ← u8s_rep']; rfl) rfl (fun b63 => (OW.sv (SV.storeW rfl rfl rfl (u8s_one _) rfl ((u8s_length _).trans Vector.length_toList) ((u8s_length _).trans Vector.length_toList)) (OW.nil (QW.then_n (CW.seq (CW.region (OW.mem (M' := (ob30, blk (cs28 ++ r32) 61) :: (some b2, blk (u8s (Vector.replicate 256 0#8).toList) 27) :: (((some b63, blk (u8s x45.address.toList) 60) :: B25) ++ N)) (fun w m => m.pick [1, 2, 0] 3 rfl rfl) ?_)))))))))
   have gq3 : ∀ w, More w0 Φ ((some b63, blk (u8s x45.address.toList) 60) :: B25) w → More w0 Φ B25 w := fun w q => More.mono (fun w m => (m).tail) q
   replace va0 := va0.mono gq3
   replace ha0 := ha0.mono (LogRd.mono gq3)
   replace h29 := h29.mono (BsRd.mono gq3)
   replace h60 := LogRd.mono gq3 _ _ h60
   replace v53 := v53.mono gq3
   replace h55 := h55.mono (Ar8Rd.mono gq3)
   replace v58 := v58.mono gq3
   have v64 : View (More w0 Φ ((some b63, blk (u8s x45.address.toList) 60) :: B25)) (some ⟨b63, 0, none⟩) x45.address.toList.length 20 1 (u8s x45.address.toList) := View.arr (w0 := w0) (te := 60) (fun w q => q.2.sublist (List.singleton_sublist.2 (List.mem_cons_self ..))) (by decide)
   refine OW.rv (RV.arr_all rfl rfl rfl) rfl ?_
   refine OW.slot (.slice (some ⟨b63, 0, none⟩) x45.address.toList.length 20) (by rw [Vector.length_toList]; try rfl) ?_
   have v65 := v64
   have m66 := v65.mx
   obtain ⟨x68, hx67, hl37⟩ := some_bind hl37
   refine OW.callG Tryd.call52 rfl (waybillref17_text_does w0 (More w0 Φ ((some b63, blk (u8s x45.address.toList) 60) :: B25)) ((ob30, blk (cs28 ++ r32) 61) :: (some b2, blk (u8s (Vector.replicate 256 0#8).toList) 27) :: (((some b63, blk (u8s x45.address.toList) 60) :: B25) ++ N)) (fun w m => More.of hΦ 2 m rfl) (some ⟨b63, 0, none⟩) 20 x45.address.toList x68 v65 hx67) rfl rfl ?_
   rintro L72 M73 ⟨B69, cs70, h71, e74, e75⟩
   rw [e74, e75]
   clear e74 e75 L72 M73
   refine OW.mem (M' := ((ob30, blk (cs28 ++ r32) 61) :: (some b2, blk (u8s (Vector.replicate 256 0#8).toList) 27) :: ((B69 ++ ((some b63, blk (u8s x45.address.toList) 60) :: B25)) ++ N))) (fun w m => by have h := Mem.sinkAt (A := B69) m 0 2 rfl rfl; exact h) ?_
   have gq4 : ∀ w, More w0 Φ (B69 ++ ((some b63, blk (u8s x45.address.toList) 60) :: B25)) w → More w0 Φ ((some b63, blk (u8s x45.address.toList) 60) :: B25) w := fun w q => More.mono (fun w m => (m).appR) q
   replace va0 := va0.mono gq4
   replace ha0 := ha0.mono (LogRd.mono gq4)
   replace h29 := h29.mono (BsRd.mono gq4)
   replace h60 := LogRd.mono gq4 _ _ h60
   replace v53 := v53.mono gq4
   replace h55 := h55.mono (Ar8Rd.mono gq4)
   replace v58 := v58.mono gq4
   replace v65 := v65.mono gq4
   replace h71 := ItRd.mono (Ψ := (More w0 Φ (B69 ++ ((some b63, blk (u8s x45.address.toList) 60) :: B25)))) (fun w q => More.flat q) _ _ h71
   have h85 := h71
   obtain ⟨A76, c77, A79, c80, cs82, e84, v78, v81, h83⟩ := ItRd.opn h71
   subst e84
   have m86 := v78.mx
   have m87 := v81.mx
   have m88 := v78.mx
   have m89 := v81.mx
   refine OW.alloc (l := [.bool false, .slice none 0 0, .slice none 0 0]) rfl rfl rfl (fun b90 => ?_)
   refine OW.sv (SV.storeW rfl rfl rfl (by intro u hu; simp at hu; rcases hu with rfl | rfl | rfl <;> rfl) rfl rfl rfl) ?_
   refine OW.nil (QW.then_n (CW.seq (CW.region (OW.rv (RV.move rfl) rfl (OW.rv (RV.field rfl rfl rfl rfl) rfl (OW.rv (RV.load rfl (List.Mem.head _) rfl rfl rfl rfl) rfl (OW.ofN (NV.bs1 rfl rfl rfl rfl rfl rfl) rfl (fun b91 => ?_))))))))
   have h94 : Reps (BsRd (More w0 Φ (B69 ++ ((some b63, blk (u8s x45.address.toList) 60) :: B25)))) (([.slice A76 x68.data.length c77] : List Value)) [x68.data] := Reps.one (BsRd.mk v78)
   refine OW.mem (M' := (((some b91), blk ((([.slice A76 x68.data.length c77] : List Value)) ++ []) 61) :: (some b90, blk [.bool (x68.list), .slice A76 x68.data.length c77, .slice A79 x68.items.length c80] 89) :: (ob30, blk (cs28 ++ r32) 61) :: (some b2, blk (u8s (Vector.replicate 256 0#8).toList) 27) :: ((B69 ++ ((some b63, blk (u8s x45.address.toList) 60) :: B25)) ++ N))) (fun w m => m) ?_
   have o92 : OwnS (some b91) ([x68.data] : List (List (BitVec 8))).length 1 1 (([.slice A76 x68.data.length c77] : List Value)) [] := ⟨by simp [BsRd], by simp [BsRd], (fun h => nomatch h), by simp⟩
   have mx_o92 := o92.mx
   refine OW.slot (sl (some b91) 0 ([x68.data] : List (List (BitVec 8))).length 1) (rfl) (OW.rot2 ?_)
   obtain ⟨g95, hl37⟩ := some_if hl37
   have h100 := h29.app h94
   refine OW.appendOwn (s := 1) rfl rfl rfl rfl rfl rfl o33 (fun w m => m.rd0 (List.Mem.tail _ (List.Mem.head _)) (fun e => o92.nilc (by decide) e)) o92.n (h94.cell1 BsRd.one) (o92.zeroO (by decide)) (by decide) (by decide) (by first | omega | (simp only [i61, List.length_nil]; omega)) rfl rfl ((l27 ++ ([x68.data] : List (List (BitVec 8)))).length) (cs28 ++ (([.slice A76 x68.data.length c77] : List Value))) (List.length_append ..).symm rfl (fun ob96 r97 c98 o99 => ?_)
   have m101 := o99.mx
   refine OW.rv (RV.assign rfl) rfl (OW.nil (QW.then_n (CW.seq (CW.region (OW.rv (RV.assign rfl) rfl (OW.nil (QW.then_n ?_)))))))
   obtain ⟨q102, hq103, hl37⟩ := some_bind hl37
   refine CW.cutJ (fun L' M' => ∃ l106 : List (List (BitVec 8)), ∃ B104 : List Ent, ∃ cs107 : List Value, ∃ ob109 : Option Nat, ∃ c110 : Nat, ∃ r111 : List Value, q102 = l106 ∧ (∀ w, Mem w0 w B104 → Mem w0 w (B69 ++ ((some b63, blk (u8s x45.address.toList) 60) :: B25))) ∧ (Reps (BsRd (More w0 Φ B104)) cs107 l106) ∧ (OwnS ob109 l106.length c110 1 cs107 r111) ∧ L' = [(0, .slice A0_ a0.length c0_), (2, ptr (some b2) 0), (3, sl ob109 0 l106.length c110), (4, .int .i64 ((n34 : Nat) : Int))] ∧ M' = ((ob109, blk (cs107 ++ r111) 61) :: (some b2, blk (u8s (Vector.replicate 256 0#8).toList) 27) :: (B104 ++ N))) ?_ ?_
   ·rintro L114 M115 ⟨l106, B104, cs107, ob109, c110, r111, e113, hB105, h108, o112, e116, e117⟩
    rw [e116, e117]
    clear e116 e117 L114 M115
    clear hq103
    rw [e113] at hl37
    clear e113
    try dsimp only at hl37
    have gq5 : ∀ w, More w0 Φ B104 w → More w0 Φ (B69 ++ ((some b63, blk (u8s x45.address.toList) 60) :: B25)) w := fun w q => More.mono (fun w m => hB105 w (m)) q
    replace va0 := va0.mono gq5
    replace ha0 := ha0.mono (LogRd.mono gq5)
    have m118 := o112.mx
    refine QW.block_n (QW.then_n (CW.region (OW.rv (RV.move rfl) rfl (OW.rv (RV.add rfl rfl (by omega)) rfl (OW.slot (.int .i64 (((n34 + 1) : Nat) : Int)) (by first | rfl | (congr 1) | (congr 1; omega)) (OW.rv (RV.assign rfl) rfl (OW.nil ?_)))))))
    exact QW.againJ (k' := k36) (Nat.lt_succ_self _) ⟨l106, (n34 + 1), B104, cs107, ob109, c110, r111, hl37, (fun w m => hB26 w (((hB105 w (m)).appR).tail)), h108, o112, (by omega), rfl, rfl⟩ ⟨rfl, rfl, rfl, rfl, trivial⟩ (fun w m => m.pick [0, 1] 2 rfl rfl)
   ·skip
    refine CW.block (CW.loopJ (fun k L' M' => ∃ l121 : List (List (BitVec 8)), ∃ n128 : Nat, ∃ B119 : List Ent, ∃ cs122 : List Value, ∃ ob124 : Option Nat, ∃ c125 : Nat, ∃ r126 : List Value, (waybillref17_BloomOf.l2 a0 n34 k l121 n128) = some q102 ∧ (∀ w, Mem w0 w B119 → Mem w0 w (B69 ++ ((some b63, blk (u8s x45.address.toList) 60) :: B25))) ∧ (Reps (BsRd (More w0 Φ B119)) cs122 l121) ∧ (OwnS ob124 l121.length c125 1 cs122 r126) ∧ (n128 ≤ 9223372036854775807) ∧ L' = [(0, .slice A0_ a0.length c0_), (2, ptr (some b2) 0), (3, sl ob124 0 l121.length c125), (4, .int .i64 ((n34 : Nat) : Int)), (7, .int .i64 ((n128 : Nat) : Int))] ∧ M' = ((ob124, blk (cs122 ++ r126) 61) :: (some b2, blk (u8s (Vector.replicate 256 0#8).toList) 27) :: (B119 ++ N))) (k0 := (((a0[n34]?)).elim 2 fun x132 => (x132.topics.length - 0 + 2))) ⟨(l27 ++ ([x68.data] : List (List (BitVec 8)))), 0, (B69 ++ ((some b63, blk (u8s x45.address.toList) 60) :: B25)), (cs28 ++ (([.slice A76 x68.data.length c77] : List Value))), ob96, c98, r97, hq103, (fun w m => m), h100, o99, (by omega), rfl, rfl⟩ ⟨rfl, rfl, rfl, rfl, rfl, trivial⟩ (fun w m => m.pick [0, 3] 4 rfl rfl) ?_)
    clear hq103
    rintro k130 L133 M134 ⟨l121, n128, B119, cs122, ob124, c125, r126, hl131, hB120, h123, o127, b129, e135, e136⟩
    rw [e135, e136]
    clear e135 e136 L133 M134
    rcases k130 with _ | k130
    ·rw [waybillref17_BloomOf.l2] at hl131; cases hl131
    rw [waybillref17_BloomOf.l2] at hl131
    have gq6 : ∀ w, More w0 Φ B119 w → More w0 Φ (B69 ++ ((some b63, blk (u8s x45.address.toList) 60) :: B25)) w := fun w q => More.mono (fun w m => hB120 w (m)) q
    replace va0 := va0.mono gq6
    replace ha0 := ha0.mono (LogRd.mono gq6)
    have m137 := o127.mx
    refine CW.seq (CW.seq (CW.region (OW.rv (RV.move rfl) rfl (OW.rv (RV.move rfl) rfl (OW.rv (RV.move rfl) rfl ?_)))))
    obtain ⟨x138, hx139, hl131⟩ := some_bind hl131
    have hl140 := lt_of_at hx139
    refine OW.rv (RV.idx_rs (n34) rfl rfl rfl rfl rfl (va0.isSome (by decide) hl140) (by omega)) rfl ?_
    obtain ⟨cs141, h142, h143⟩ := ha0.get LogRd.len hx139
    have h153 := h142
    obtain ⟨A144, c145, cs147, A149, c150, e152, v146, h148, v151⟩ := LogRd.opn h142
    subst e152
    have m154 := v146.mx
    have m155 := v151.mx
    refine OW.rv (RV.field_at rfl rfl rfl rfl) rfl (OW.rv (RV.load_at rfl rfl rfl (fun w m => va0.load_fld (More.of hΦ 2 m rfl) h143 (LogC.C_topics (⟨x138.address, .slice A144 x138.topics.length c145, .slice A149 x138.data.length c150⟩ : LogC)))) rfl (OW.rv (RV.len rfl rfl) rfl (OW.rv (RV.lss rfl rfl) rfl (OW.slot (.bool (decide (n128 < x138.topics.length))) (congrArg Value.bool (decide_eq_decide.2 (by omega))) (OW.nil (QW.then_n ?_))))))
    by_cases h156 : n128 < x138.topics.length
    ·replace hl131 := if_t hl131 h156
     refine CW.is_t rfl (decide_eq_true h156) (CW.skip (QW.then_n (CW.seq (CW.block (CW.seq (CW.region (OW.rv (RV.move rfl) rfl (OW.rv (RV.move rfl) rfl ?_))))))))
     obtain ⟨x157, hx158, hl131⟩ := some_bind hl131
     have hl159 := lt_of_at hx158
     refine OW.rv (RV.idx_rs (n34) rfl rfl rfl rfl rfl (va0.isSome (by decide) hl159) (by omega)) rfl ?_
     obtain ⟨cs160, h161, h162⟩ := ha0.get LogRd.len hx158
     have h172 := h161
     obtain ⟨A163, c164, cs166, A168, c169, e171, v165, h167, v170⟩ := LogRd.opn h161
     subst e171
     have m173 := v165.mx
     have m174 := v170.mx
     refine OW.rv (RV.field_at rfl rfl rfl rfl) rfl (OW.rv (RV.load_at rfl rfl rfl (fun w m => va0.load_fld (More.of hΦ 2 m rfl) h162 (LogC.C_topics (⟨x157.address, .slice A163 x157.topics.length c164, .slice A168 x157.data.length c169⟩ : LogC)))) rfl (OW.rv (RV.move rfl) rfl ?_))
     obtain ⟨x175, hx176, hl131⟩ := some_bind hl131
     have hl177 := lt_of_at hx176
     refine OW.rv (RV.idx_rs (n128) rfl rfl rfl rfl rfl (v165.isSome (by decide) hl177) (by omega)) rfl ?_
     obtain ⟨cs178, h179, h180⟩ := h167.get Ar8Rd.len hx176
     have h179a := h179
     subst h179a
     refine OW.rv (RV.loadAs rfl rfl rfl rfl (fun w m => v165.load (More.of hΦ 2 m rfl) h180) ((u8s_length _).trans Vector.length_toList)) rfl (OW.alloc (l := (u8s (Vector.replicate 32 0#8).toList)) rfl (by rw [Vector.toList_replicate, ← u8s_rep']; rfl) rfl (fun b181 => (OW.sv (SV.storeW rfl rfl rfl (u8s_one _) rfl ((u8s_length _).trans Vector.length_toList) ((u8s_length _).trans Vector.length_toList)) (OW.nil (QW.then_n (CW.seq (CW.region (OW.mem (M' := (ob124, blk (cs122 ++ r126) 61) :: (some b2, blk (u8s (Vector.replicate 256 0#8).toList) 27) :: (((some b181, blk (u8s x175.toList) 24) :: B119) ++ N)) (fun w m => m.pick [1, 2, 0] 3 rfl rfl) ?_))))))))
     have gq7 : ∀ w, More w0 Φ ((some b181, blk (u8s x175.toList) 24) :: B119) w → More w0 Φ B119 w := fun w q => More.mono (fun w m => (m).tail) q
     replace va0 := va0.mono gq7
     replace ha0 := ha0.mono (LogRd.mono gq7)
     replace h123 := h123.mono (BsRd.mono gq7)
     replace h153 := LogRd.mono gq7 _ _ h153
     replace v146 := v146.mono gq7
     replace h148 := h148.mono (Ar8Rd.mono gq7)
     replace v151 := v151.mono gq7
     replace h172 := LogRd.mono gq7 _ _ h172
     replace v165 := v165.mono gq7
     replace h167 := h167.mono (Ar8Rd.mono gq7)
     replace v170 := v170.mono gq7
     have v182 : View (More w0 Φ ((some b181, blk (u8s x175.toList) 24) :: B119)) (some ⟨b181, 0, none⟩) x175.toList.length 32 1 (u8s x175.toList) := View.arr (w0 := w0) (te := 24) (fun w q => q.2.sublist (List.singleton_sublist.2 (List.mem_cons_self ..))) (by decide)
     refine OW.rv (RV.arr_all rfl rfl rfl) rfl ?_
     refine OW.slot (.slice (some ⟨b181, 0, none⟩) x175.toList.length 32) (by rw [Vector.length_toList]; try rfl) ?_
     have v183 := v182
     have m184 := v183.mx
     obtain ⟨x186, hx185, hl131⟩ := some_bind hl131
     refine OW.callG Tryd.call52 rfl (waybillref17_text_does w0 (More w0 Φ ((some b181, blk (u8s x175.toList) 24) :: B119)) ((ob124, blk (cs122 ++ r126) 61) :: (some b2, blk (u8s (Vector.replicate 256 0#8).toList) 27) :: (((some b181, blk (u8s x175.toList) 24) :: B119) ++ N)) (fun w m => More.of hΦ 2 m rfl) (some ⟨b181, 0, none⟩) 32 x175.toList x186 v183 hx185) rfl rfl ?_
     rintro L190 M191 ⟨B187, cs188, h189, e192, e193⟩
     rw [e192, e193]
     clear e192 e193 L190 M191
     refine OW.mem (M' := ((ob124, blk (cs122 ++ r126) 61) :: (some b2, blk (u8s (Vector.replicate 256 0#8).toList) 27) :: ((B187 ++ ((some b181, blk (u8s x175.toList) 24) :: B119)) ++ N))) (fun w m => by have h := Mem.sinkAt (A := B187) m 0 2 rfl rfl; exact h) ?_
     have gq8 : ∀ w, More w0 Φ (B187 ++ ((some b181, blk (u8s x175.toList) 24) :: B119)) w → More w0 Φ ((some b181, blk (u8s x175.toList) 24) :: B119) w := fun w q => More.mono (fun w m => (m).appR) q
     replace va0 := va0.mono gq8
     replace ha0 := ha0.mono (LogRd.mono gq8)
     replace h123 := h123.mono (BsRd.mono gq8)
     replace h153 := LogRd.mono gq8 _ _ h153
     replace v146 := v146.mono gq8
     replace h148 := h148.mono (Ar8Rd.mono gq8)
     replace v151 := v151.mono gq8
     replace h172 := LogRd.mono gq8 _ _ h172
     replace v165 := v165.mono gq8
     replace h167 := h167.mono (Ar8Rd.mono gq8)
     replace v170 := v170.mono gq8
     replace v183 := v183.mono gq8
     replace h189 := ItRd.mono (Ψ := (More w0 Φ (B187 ++ ((some b181, blk (u8s x175.toList) 24) :: B119)))) (fun w q => More.flat q) _ _ h189
     have h203 := h189
     obtain ⟨A194, c195, A197, c198, cs200, e202, v196, v199, h201⟩ := ItRd.opn h189
     subst e202
     have m204 := v196.mx
     have m205 := v199.mx
     have m206 := v196.mx
     have m207 := v199.mx
     refine OW.alloc (l := [.bool false, .slice none 0 0, .slice none 0 0]) rfl rfl rfl (fun b208 => ?_)
     refine OW.sv (SV.storeW rfl rfl rfl (by intro u hu; simp at hu; rcases hu with rfl | rfl | rfl <;> rfl) rfl rfl rfl) ?_
     refine OW.nil (QW.then_n (CW.region (OW.rv (RV.move rfl) rfl (OW.rv (RV.field rfl rfl rfl rfl) rfl (OW.rv (RV.load rfl (List.Mem.head _) rfl rfl rfl rfl) rfl (OW.ofN (NV.bs1 rfl rfl rfl rfl rfl rfl) rfl (fun b209 => ?_)))))))
     have h212 : Reps (BsRd (More w0 Φ (B187 ++ ((some b181, blk (u8s x175.toList) 24) :: B119)))) (([.slice A194 x186.data.length c195] : List Value)) [x186.data] := Reps.one (BsRd.mk v196)
     refine OW.mem (M' := (((some b209), blk ((([.slice A194 x186.data.length c195] : List Value)) ++ []) 61) :: (some b208, blk [.bool (x186.list), .slice A194 x186.data.length c195, .slice A197 x186.items.length c198] 89) :: (ob124, blk (cs122 ++ r126) 61) :: (some b2, blk (u8s (Vector.replicate 256 0#8).toList) 27) :: ((B187 ++ ((some b181, blk (u8s x175.toList) 24) :: B119)) ++ N))) (fun w m => m) ?_
     have o210 : OwnS (some b209) ([x186.data] : List (List (BitVec 8))).length 1 1 (([.slice A194 x186.data.length c195] : List Value)) [] := ⟨by simp [BsRd], by simp [BsRd], (fun h => nomatch h), by simp⟩
     have mx_o210 := o210.mx
     refine OW.slot (sl (some b209) 0 ([x186.data] : List (List (BitVec 8))).length 1) (rfl) (OW.rot2 ?_)
     obtain ⟨g213, hl131⟩ := some_if hl131
     have h218 := h123.app h212
     refine OW.appendOwn (s := 1) rfl rfl rfl rfl rfl rfl o127 (fun w m => m.rd0 (List.Mem.tail _ (List.Mem.head _)) (fun e => o210.nilc (by decide) e)) o210.n (h212.cell1 BsRd.one) (o210.zeroO (by decide)) (by decide) (by decide) (by first | omega | (simp only [i61, List.length_nil]; omega)) rfl rfl ((l121 ++ ([x186.data] : List (List (BitVec 8)))).length) (cs122 ++ (([.slice A194 x186.data.length c195] : List Value))) (List.length_append ..).symm rfl (fun ob214 r215 c216 o217 => ?_)
     have m219 := o217.mx
     refine OW.rv (RV.assign rfl) rfl (OW.nil (QW.block_n (QW.then_n (CW.region (OW.rv (RV.move rfl) rfl (OW.rv (RV.add rfl rfl (by omega)) rfl (OW.slot (.int .i64 (((n128 + 1) : Nat) : Int)) (by first | rfl | (congr 1) | (congr 1; omega)) (OW.rv (RV.assign rfl) rfl (OW.nil ?_)))))))))
     exact QW.againJ (k' := k130) (Nat.lt_succ_self _) ⟨(l121 ++ ([x186.data] : List (List (BitVec 8)))), (n128 + 1), (B187 ++ ((some b181, blk (u8s x175.toList) 24) :: B119)), (cs122 ++ (([.slice A194 x186.data.length c195] : List Value))), ob214, c216, r215, hl131, (fun w m => hB120 w (((m).appR).tail)), h218, o217, (by omega), rfl, rfl⟩ ⟨rfl, rfl, rfl, rfl, rfl, trivial⟩ (fun w m => m.pick [0, 3] 4 rfl rfl)
    ·replace hl131 := if_f hl131 h156
     refine CW.is_f rfl (decide_eq_false h156) (CW.exit (QW.then_x (QW.then_x (QW.block_xe ?_))))
     exact QW.join ⟨l121, B119, cs122, ob124, c125, r126, (Option.some.inj hl131).symm, (fun w m => hB120 w (m)), h123, o127, rfl, rfl⟩ ⟨rfl, rfl, rfl, rfl, trivial⟩ (fun w m => m.pick [0, 1] 2 rfl rfl)
  ·replace hl37 := if_f hl37 h44
   refine CW.is_f rfl (decide_eq_false h44) (CW.exit (QW.then_x (QW.then_x (QW.block_xe ?_))))
   exact QW.join ⟨l27, B25, cs28, ob30, c31, r32, (Option.some.inj hl37).symm, (fun w m => hB26 w (m)), h29, o33, rfl, rfl⟩ ⟨rfl, rfl, trivial⟩ (fun w m => m.pick [0, 1] 2 rfl rfl)
theorem waybillref17_Check_does (w0 : World) (Φ : Ctx) (N : List Ent) (hΦ : ∀ w, Mem w0 w N → Φ w) (cs0_ : List Value) (a0 : Rcpt) (res0 : Nat) (ha0 : RcptRd Φ cs0_ a0) (hTn : ∀ i, i < 25 → w0.cell? ⟨4, i, none⟩ = some (.int .i64 (turnsL.getD i 0))) (hRn : ∀ i, i < 24 → w0.cell? ⟨3, i, none⟩ = some (U64 (g64 roundsL i))) (hf : waybillref17_Check a0 = some res0) : DoesG Tryd.prog 37 [.agg cs0_.toArray] w0 [] N (fun v G => (res0 ≤ 9223372036854775807) ∧ v = .int .i64 ((res0 : Nat) : Int)) := by
 unfold waybillref17_Check at hf
 replace ha0 := RcptRd.mono (Ψ := More w0 Φ []) (fun w q => q.1) _ _ ha0
 have h8 := ha0
 obtain ⟨A2, c3, cs5, e7, b1, v4, h6⟩ := RcptRd.opn ha0
 subst e7
 have m9 := v4.mx
 refine DoesG.enter Tryd.func37 rfl Tryd.ntmps37 rfl (M := (([] ++ N))) rfl (CW.seq (CW.region (OW.boxA rfl rfl (fun b10 => (OW.rv (RV.assign rfl) rfl (OW.nil (QW.then_n (CW.seq (CW.seq ?_)))))))))
 obtain ⟨q11, hq12, hf⟩ := some_bind hf
 refine CW.cutJ (fun L' M' => ∃ p13 : Bool, q11 = p13 ∧ L' = [(1, ptr (some b10) 0), (11, .bool (p13))] ∧ M' = ((some b10, blk (⟨a0.kind, (a0.rooted), a0.root, a0.status, a0.used, a0.bloom, .slice A2 a0.logs.length c3⟩ : RcptC).C 30) :: ([] ++ N))) ?_ ?_
 ·rintro L15 M16 ⟨p13, e14, e17, e18⟩
  rw [e17, e18]
  clear e17 e18 L15 M16
  clear hq12
  rw [e14] at hf
  clear e14
  try dsimp only at hf
  refine QW.then_n ?_
  by_cases h19 : p13 = true
  ·replace hf := if_t hf h19
   refine CW.is_t rfl (h19) (CW.seq (CW.region (OW.rv (RV.assign rfl) rfl (OW.nil (QW.then_n (CW.ret (QW.then_r ?_)))))))
   have e0 := Option.some.inj hf
   subst e0
   refine QW.retG (rs := [.tmp 2]) ([.int .i64 (170 : Int)]) ((some b10, blk (⟨a0.kind, (a0.rooted), a0.root, a0.status, a0.used, a0.bloom, .slice A2 a0.logs.length c3⟩ : RcptC).C 30) :: []) rfl ?_ rfl ?_ ?_ _ (.inl rfl)
   ·exact ⟨rfl, trivial⟩
   ·exact ⟨(by omega), rfl⟩
   ·exact (fun w m => m)
  ·replace hf := if_f hf h19
   refine CW.is_f rfl (Bool.eq_false_iff.2 h19) (CW.skip (QW.then_n (CW.seq (CW.seq ?_))))
   obtain ⟨q20, hq21, hf⟩ := some_bind hf
   refine CW.cutJ (fun L' M' => ∃ p22 : Bool, q20 = p22 ∧ L' = [(1, ptr (some b10) 0), (23, .bool (p22))] ∧ M' = ((some b10, blk (⟨a0.kind, (a0.rooted), a0.root, a0.status, a0.used, a0.bloom, .slice A2 a0.logs.length c3⟩ : RcptC).C 30) :: ([] ++ N))) ?_ ?_
   ·rintro L24 M25 ⟨p22, e23, e26, e27⟩
    rw [e26, e27]
    clear e26 e27 L24 M25
    clear hq21
    rw [e23] at hf
    clear e23
    try dsimp only at hf
    refine QW.then_n ?_
    by_cases h28 : p22 = true
    ·replace hf := if_t hf h28
     refine CW.is_t rfl (h28) (CW.seq (CW.region (OW.rv (RV.assign rfl) rfl (OW.nil (QW.then_n (CW.ret (QW.then_r ?_)))))))
     have e0 := Option.some.inj hf
     subst e0
     refine QW.retG (rs := [.tmp 2]) ([.int .i64 (172 : Int)]) ((some b10, blk (⟨a0.kind, (a0.rooted), a0.root, a0.status, a0.used, a0.bloom, .slice A2 a0.logs.length c3⟩ : RcptC).C 30) :: []) rfl ?_ rfl ?_ ?_ _ (.inl rfl)
     ·exact ⟨rfl, trivial⟩
     ·exact ⟨(by omega), rfl⟩
     ·exact (fun w m => m)
    ·replace hf := if_f hf h28
     refine CW.is_f rfl (Bool.eq_false_iff.2 h28) (CW.skip (QW.then_n (CW.seq (CW.seq ?_))))
     obtain ⟨q29, hq30, hf⟩ := some_bind hf
     refine CW.cutJ (fun L' M' => ∃ p31 : Bool, q29 = p31 ∧ L' = [(1, ptr (some b10) 0), (37, .bool (p31))] ∧ M' = ((some b10, blk (⟨a0.kind, (a0.rooted), a0.root, a0.status, a0.used, a0.bloom, .slice A2 a0.logs.length c3⟩ : RcptC).C 30) :: ([] ++ N))) ?_ ?_
     ·rintro L33 M34 ⟨p31, e32, e35, e36⟩
      rw [e35, e36]
      clear e35 e36 L33 M34
      clear hq30
      rw [e32] at hf
      clear e32
      try dsimp only at hf
      refine QW.then_n ?_
      by_cases h37 : p31 = true
      ·replace hf := if_t hf h37
       refine CW.is_t rfl (h37) (CW.seq (CW.region (OW.rv (RV.assign rfl) rfl (OW.nil (QW.then_n (CW.ret (QW.then_r ?_)))))))
       have e0 := Option.some.inj hf
       subst e0
       refine QW.retG (rs := [.tmp 2]) ([.int .i64 (172 : Int)]) ((some b10, blk (⟨a0.kind, (a0.rooted), a0.root, a0.status, a0.used, a0.bloom, .slice A2 a0.logs.length c3⟩ : RcptC).C 30) :: []) rfl ?_ rfl ?_ ?_ _ (.inl rfl)
       ·exact ⟨rfl, trivial⟩
       ·exact ⟨(by omega), rfl⟩
       ·exact (fun w m => m)
      ·replace hf := if_f hf h37
       refine CW.is_f rfl (Bool.eq_false_iff.2 h37) (CW.skip (QW.then_n (CW.seq (CW.seq (CW.region (OW.rv (RV.assign rfl) rfl (OW.nil (QW.then_n ?_))))))))
       obtain ⟨q38, hq39, hf⟩ := some_bind hf
       refine CW.cutJ (fun L' M' => q38 = Lp.go () ∧ L' = [(1, ptr (some b10) 0)] ∧ M' = ((some b10, blk (⟨a0.kind, (a0.rooted), a0.root, a0.status, a0.used, a0.bloom, .slice A2 a0.logs.length c3⟩ : RcptC).C 30) :: ([] ++ N))) ?_ ?_
       ·rintro L41 M42 ⟨e40, e43, e44⟩
        rw [e43, e44]
        clear e43 e44 L41 M42
        clear hq39
        rw [e40] at hf
        clear e40
        try dsimp only at hf
        refine QW.then_n (CW.seq (CW.seq (CW.drawsU 6 mixed (by kernel_rfl) rfl (UW.rv 0 rfl (by kernel_rfl) rfl (RV.field rfl rfl rfl rfl) rfl (UW.slot (ptr (some b10) 36) rfl (UW.rv 1 rfl (by kernel_rfl) rfl (RV.loadAo rfl (List.Mem.head _) rfl rfl rfl rfl (RcptC.C_bloom_all (⟨a0.kind, (a0.rooted), a0.root, a0.status, a0.used, a0.bloom, .slice A2 a0.logs.length c3⟩ : RcptC)) ((u8s_length _).trans Vector.length_toList)) rfl (UW.rv 2 rfl (by kernel_rfl) rfl (RV.field rfl rfl rfl rfl) rfl (UW.slot (ptr (some b10) 292) rfl (UW.rv 3 rfl (by kernel_rfl) rfl (RV.load rfl (List.Mem.head _) rfl rfl rfl (RcptC.C_logs (⟨a0.kind, (a0.rooted), a0.root, a0.status, a0.used, a0.bloom, .slice A2 a0.logs.length c3⟩ : RcptC))) rfl ?_)))))))))
        obtain ⟨x46, hx45, hf⟩ := some_bind hf
        refine UW.callG 4 rfl (by kernel_rfl) rfl Tryd.call29 rfl (fun N' hN' => waybillref17_BloomOf_does w0 (More w0 Φ []) N' (fun w m => More.of hΦ 1 (hN' w m) rfl) A2 c3 cs5 a0.logs x46 v4 h6 hTn hRn hx45) rfl ?_
        rintro _ G47 rfl
        refine UW.mem (M' := ((some b10, blk (⟨a0.kind, (a0.rooted), a0.root, a0.status, a0.used, a0.bloom, .slice A2 a0.logs.length c3⟩ : RcptC).C 30) :: ([] ++ N))) (fun w m => m.appR) (UW.rv 5 rfl (by kernel_rfl) rfl (RV.neA8 rfl rfl rfl rfl rfl rfl (Vector.length_toList) (Vector.length_toList)) rfl (UW.slot (.bool (!decide (a0.bloom = x46))) (congrArg (fun b => Value.bool (!b)) (decide_eq_decide.2 Vector.toList_inj)) (UW.nil (by kernel_rfl) (OW.nil (QW.then_n ?_)))))
        by_cases h49 : a0.bloom = x46
        ·replace hf := if_t hf h49
         refine CW.is_f rfl (congrArg (fun b => !b) (decide_eq_true h49)) (CW.skip (QW.then_n (CW.seq (CW.region (OW.rv (RV.assign rfl) rfl (OW.nil (QW.then_n (CW.ret ?_))))))))
         have e0 := Option.some.inj hf
         subst e0
         refine QW.retG (rs := [.tmp 2]) ([.int .i64 (0 : Int)]) ((some b10, blk (⟨a0.kind, (a0.rooted), a0.root, a0.status, a0.used, a0.bloom, .slice A2 a0.logs.length c3⟩ : RcptC).C 30) :: []) rfl ?_ rfl ?_ ?_ _ (.inl rfl)
         ·exact ⟨rfl, trivial⟩
         ·exact ⟨(by omega), rfl⟩
         ·exact (fun w m => m)
        ·replace hf := if_f hf h49
         refine CW.is_t rfl (congrArg (fun b => !b) (decide_eq_false h49)) (CW.seq (CW.region (OW.rv (RV.assign rfl) rfl (OW.nil (QW.then_n (CW.ret (QW.then_r ?_)))))))
         have e0 := Option.some.inj hf
         subst e0
         refine QW.retG (rs := [.tmp 2]) ([.int .i64 (173 : Int)]) ((some b10, blk (⟨a0.kind, (a0.rooted), a0.root, a0.status, a0.used, a0.bloom, .slice A2 a0.logs.length c3⟩ : RcptC).C 30) :: []) rfl ?_ rfl ?_ ?_ _ (.inl rfl)
         ·exact ⟨rfl, trivial⟩
         ·exact ⟨(by omega), rfl⟩
         ·exact (fun w m => m)
       ·skip
        refine CW.block (CW.loopJ (fun k L' M' => ∃ n50 : Nat, (waybillref17_Check.l1 a0 k n50) = some q38 ∧ (n50 ≤ 9223372036854775807) ∧ L' = [(1, ptr (some b10) 0), (3, .int .i64 ((n50 : Nat) : Int))] ∧ M' = ((some b10, blk (⟨a0.kind, (a0.rooted), a0.root, a0.status, a0.used, a0.bloom, .slice A2 a0.logs.length c3⟩ : RcptC).C 30) :: ([] ++ N))) (k0 := (a0.logs.length - 0 + 2)) ⟨0, hq39, (by omega), rfl, rfl⟩ ⟨rfl, rfl, trivial⟩ (fun w m => m.pick [0] 1 rfl rfl) ?_)
        clear hq39
        rintro k52 L55 M56 ⟨n50, hl53, b51, e57, e58⟩
        rw [e57, e58]
        clear e57 e58 L55 M56
        rcases k52 with _ | k52
        ·rw [waybillref17_Check.l1] at hl53; cases hl53
        rw [waybillref17_Check.l1] at hl53
        refine CW.seq (CW.seq (CW.region (OW.rv (RV.move rfl) rfl (OW.rv (RV.field rfl rfl rfl rfl) rfl (OW.slot (ptr (some b10) 292) rfl (OW.rv (RV.load rfl (List.Mem.head _) rfl rfl rfl (RcptC.C_logs (⟨a0.kind, (a0.rooted), a0.root, a0.status, a0.used, a0.bloom, .slice A2 a0.logs.length c3⟩ : RcptC))) rfl (OW.rv (RV.len rfl rfl) rfl (OW.rv (RV.lss rfl rfl) rfl (OW.slot (.bool (decide (n50 < a0.logs.length))) (congrArg Value.bool (decide_eq_decide.2 (by omega))) (OW.nil (QW.then_n ?_)))))))))))
        by_cases h59 : n50 < a0.logs.length
        ·replace hl53 := if_t hl53 h59
         refine CW.is_t rfl (decide_eq_true h59) (CW.skip (QW.then_n (CW.seq (CW.block (CW.seq (CW.region (OW.rv (RV.field rfl rfl rfl rfl) rfl (OW.slot (ptr (some b10) 292) rfl (OW.rv (RV.load rfl (List.Mem.head _) rfl rfl rfl (RcptC.C_logs (⟨a0.kind, (a0.rooted), a0.root, a0.status, a0.used, a0.bloom, .slice A2 a0.logs.length c3⟩ : RcptC))) rfl (OW.rv (RV.move rfl) rfl ?_))))))))))
         obtain ⟨x60, hx61, hl53⟩ := some_bind hl53
         have hl62 := lt_of_at hx61
         refine OW.rv (RV.idx_rs (n50) rfl rfl rfl rfl rfl (v4.isSome (by decide) hl62) (by omega)) rfl ?_
         obtain ⟨cs63, h64, h65⟩ := h6.get LogRd.len hx61
         have h75 := h64
         obtain ⟨A66, c67, cs69, A71, c72, e74, v68, h70, v73⟩ := LogRd.opn h64
         subst e74
         have m76 := v68.mx
         have m77 := v73.mx
         refine OW.rv (RV.field_at rfl rfl rfl rfl) rfl (OW.rv (RV.load_at rfl rfl rfl (fun w m => v4.load_fld (More.of hΦ 1 m rfl) h65 (LogC.C_topics (⟨x60.address, .slice A66 x60.topics.length c67, .slice A71 x60.data.length c72⟩ : LogC)))) rfl (OW.rv (RV.len rfl rfl) rfl (OW.rv (RV.gtr rfl rfl) rfl (OW.slot (.bool (decide (4 < x60.topics.length))) (congrArg Value.bool (decide_eq_decide.2 (by omega))) (OW.nil (QW.then_n ?_))))))
         by_cases h78 : 4 < x60.topics.length
         ·replace hl53 := if_t hl53 h78
          refine CW.is_t rfl (decide_eq_true h78) (CW.seq (CW.region (OW.rv (RV.assign rfl) rfl (OW.nil (QW.then_n (CW.ret (QW.block_r (QW.then_r (QW.then_r (QW.block_r (QW.then_r ?_)))))))))))
          have hc := Option.some.inj hl53
          subst hc
          try dsimp only at hf
          refine QW.then_r ?_
          have e0 := Option.some.inj hf
          subst e0
          refine QW.retG (rs := [.tmp 2]) ([.int .i64 (174 : Int)]) ((some b10, blk (⟨a0.kind, (a0.rooted), a0.root, a0.status, a0.used, a0.bloom, .slice A2 a0.logs.length c3⟩ : RcptC).C 30) :: []) rfl ?_ rfl ?_ ?_ _ (.inl rfl)
          ·exact ⟨rfl, trivial⟩
          ·exact ⟨(by omega), rfl⟩
          ·exact (fun w m => m)
         ·replace hl53 := if_f hl53 h78
          refine CW.is_f rfl (decide_eq_false h78) (CW.skip (QW.block_n (QW.then_n (CW.region (OW.rv (RV.move rfl) rfl (OW.rv (RV.add rfl rfl (by omega)) rfl (OW.slot (.int .i64 (((n50 + 1) : Nat) : Int)) (by first | rfl | (congr 1) | (congr 1; omega)) (OW.rv (RV.assign rfl) rfl (OW.nil ?_)))))))))
          exact QW.againJ (k' := k52) (Nat.lt_succ_self _) ⟨(n50 + 1), hl53, (by omega), rfl, rfl⟩ ⟨rfl, rfl, trivial⟩ (fun w m => m.pick [0] 1 rfl rfl)
        ·replace hl53 := if_f hl53 h59
         refine CW.is_f rfl (decide_eq_false h59) (CW.exit (QW.then_x (QW.then_x (QW.block_xe ?_))))
         exact QW.join ⟨(Option.some.inj hl53).symm, rfl, rfl⟩ ⟨rfl, trivial⟩ (fun w m => m.pick [0] 1 rfl rfl)
     ·skip
      refine CW.region (OW.rv (RV.field rfl rfl rfl rfl) rfl (OW.slot (ptr (some b10) 1) rfl (OW.rv (RV.load rfl (List.Mem.head _) rfl rfl rfl (RcptC.C_rooted (⟨a0.kind, (a0.rooted), a0.root, a0.status, a0.used, a0.bloom, .slice A2 a0.logs.length c3⟩ : RcptC))) rfl (OW.rv (RV.not rfl) rfl (OW.rv (RV.move rfl) rfl ?_)))))
      by_cases h79 : a0.rooted = true
      ·replace hq30 := if_t hq30 h79
       refine OW.slot (.bool false) (congrArg Value.bool (congrArg (fun b => !b) (h79))) (OW.skip rfl rfl rfl (OW.skip rfl rfl rfl (OW.skip rfl rfl rfl (OW.skip rfl rfl rfl (OW.skip rfl rfl rfl (OW.skip rfl rfl rfl (OW.skip rfl rfl rfl (OW.skip rfl rfl rfl (OW.skip rfl rfl rfl (OW.rv (RV.pick_f rfl rfl rfl) rfl (OW.nil ?_)))))))))))
       exact QW.join ⟨false, (Option.some.inj hq30).symm, rfl, rfl⟩ ⟨rfl, rfl, trivial⟩ (fun w m => m.pick [0] 1 rfl rfl)
      ·replace hq30 := if_f hq30 h79
       refine OW.slot (.bool true) (congrArg Value.bool (congrArg (fun b => !b) (Bool.eq_false_iff.2 h79))) (OW.want rfl (OW.rv (RV.field rfl rfl rfl rfl) rfl (OW.slot (ptr (some b10) 2) rfl (OW.want rfl (OW.rv (RV.loadAo rfl (List.Mem.head _) rfl rfl rfl rfl (RcptC.C_root_all (⟨a0.kind, (a0.rooted), a0.root, a0.status, a0.used, a0.bloom, .slice A2 a0.logs.length c3⟩ : RcptC)) ((u8s_length _).trans Vector.length_toList)) rfl (OW.want rfl (OW.rv (RV.build0 (l := (u8s (Vector.replicate 32 0#8).toList)) rfl rfl rfl (by rw [Vector.toList_replicate, ← u8s_rep']; rfl)) rfl (OW.want rfl (OW.rv (RV.neA8 rfl rfl rfl rfl rfl rfl (Vector.length_toList) (Vector.length_toList)) rfl (OW.slot (.bool (!decide (a0.root = (Vector.replicate 32 0#8)))) (congrArg (fun b => Value.bool (!b)) (decide_eq_decide.2 Vector.toList_inj)) (OW.want rfl (OW.rv (RV.move rfl) rfl ?_))))))))))))
       by_cases h80 : a0.root = (Vector.replicate 32 0#8)
       ·replace hq30 := if_t hq30 h80
        refine OW.slot (.bool false) (congrArg Value.bool (congrArg (fun b => !b) (decide_eq_true h80))) (OW.want rfl (OW.rv (RV.field rfl rfl rfl rfl) rfl (OW.slot (ptr (some b10) 34) rfl (OW.want rfl (OW.rv (RV.load rfl (List.Mem.head _) rfl rfl rfl (RcptC.C_status (⟨a0.kind, (a0.rooted), a0.root, a0.status, a0.used, a0.bloom, .slice A2 a0.logs.length c3⟩ : RcptC))) rfl (OW.want rfl (OW.rv (RV.gtr rfl rfl) rfl (OW.slot (.bool (decide (1 < a0.status.toNat))) (congrArg Value.bool (decide_eq_decide.2 (by first | omega | (simp; omega) | simp))) (OW.want rfl (OW.rv (RV.pick_f rfl rfl rfl) rfl (OW.rv (RV.pick_t rfl rfl rfl) rfl (OW.nil ?_))))))))))))
        exact QW.join ⟨(decide (1 < a0.status.toNat)), (Option.some.inj hq30).symm, rfl, rfl⟩ ⟨rfl, rfl, trivial⟩ (fun w m => m.pick [0] 1 rfl rfl)
       ·replace hq30 := if_f hq30 h80
        refine OW.slot (.bool true) (congrArg Value.bool (congrArg (fun b => !b) (decide_eq_false h80))) (OW.skip rfl rfl rfl (OW.skip rfl rfl rfl (OW.skip rfl rfl rfl (OW.want rfl (OW.rv (RV.pick_t rfl rfl rfl) rfl (OW.rv (RV.pick_t rfl rfl rfl) rfl (OW.nil ?_)))))))
        exact QW.join ⟨true, (Option.some.inj hq30).symm, rfl, rfl⟩ ⟨rfl, rfl, trivial⟩ (fun w m => m.pick [0] 1 rfl rfl)
   ·skip
    refine CW.region (OW.rv (RV.field rfl rfl rfl rfl) rfl (OW.slot (ptr (some b10) 1) rfl (OW.rv (RV.load rfl (List.Mem.head _) rfl rfl rfl (RcptC.C_rooted (⟨a0.kind, (a0.rooted), a0.root, a0.status, a0.used, a0.bloom, .slice A2 a0.logs.length c3⟩ : RcptC))) rfl (OW.rv (RV.move rfl) rfl ?_))))
    by_cases h81 : a0.rooted = true
    ·replace hq21 := if_t hq21 h81
     refine OW.slot (.bool true) (congrArg Value.bool (h81)) (OW.want rfl (OW.rv (RV.field rfl rfl rfl rfl) rfl (OW.slot (ptr (some b10) 0) rfl (OW.want rfl (OW.rv (RV.load rfl (List.Mem.head _) rfl rfl rfl (RcptC.C_kind (⟨a0.kind, (a0.rooted), a0.root, a0.status, a0.used, a0.bloom, .slice A2 a0.logs.length c3⟩ : RcptC))) rfl (OW.want rfl (OW.rv (RV.neq rfl rfl) rfl (OW.want rfl (OW.rv (RV.move rfl) rfl ?_)))))))))
     by_cases h82 : a0.kind = (0 : Int)
     ·replace hq21 := if_t hq21 h82
      refine OW.slot (.bool false) (congrArg Value.bool (congrArg (fun b => !b) (decide_eq_true h82))) (OW.want rfl (OW.rv (RV.field rfl rfl rfl rfl) rfl (OW.slot (ptr (some b10) 34) rfl (OW.want rfl (OW.rv (RV.load rfl (List.Mem.head _) rfl rfl rfl (RcptC.C_status (⟨a0.kind, (a0.rooted), a0.root, a0.status, a0.used, a0.bloom, .slice A2 a0.logs.length c3⟩ : RcptC))) rfl (OW.want rfl (OW.rv (RV.neq64 rfl (by first | rfl | exact lit64 _ rfl) rfl (by first | rfl | exact lit64 _ rfl)) rfl (OW.want rfl (OW.rv (RV.pick_f rfl rfl rfl) rfl (OW.rv (RV.pick_t rfl rfl rfl) rfl (OW.nil ?_)))))))))))
      exact QW.join ⟨(!decide (a0.status = 0#64)), (Option.some.inj hq21).symm, rfl, rfl⟩ ⟨rfl, rfl, trivial⟩ (fun w m => m.pick [0] 1 rfl rfl)
     ·replace hq21 := if_f hq21 h82
      refine OW.slot (.bool true) (congrArg Value.bool (congrArg (fun b => !b) (decide_eq_false h82))) (OW.skip rfl rfl rfl (OW.skip rfl rfl rfl (OW.skip rfl rfl rfl (OW.want rfl (OW.rv (RV.pick_t rfl rfl rfl) rfl (OW.rv (RV.pick_t rfl rfl rfl) rfl (OW.nil ?_)))))))
      exact QW.join ⟨true, (Option.some.inj hq21).symm, rfl, rfl⟩ ⟨rfl, rfl, trivial⟩ (fun w m => m.pick [0] 1 rfl rfl)
    ·replace hq21 := if_f hq21 h81
     refine OW.slot (.bool false) (congrArg Value.bool (Bool.eq_false_iff.2 h81)) (OW.skip rfl rfl rfl (OW.skip rfl rfl rfl (OW.skip rfl rfl rfl (OW.skip rfl rfl rfl (OW.skip rfl rfl rfl (OW.skip rfl rfl rfl (OW.skip rfl rfl rfl (OW.skip rfl rfl rfl (OW.rv (RV.pick_f rfl rfl rfl) rfl (OW.nil ?_))))))))))
     exact QW.join ⟨false, (Option.some.inj hq21).symm, rfl, rfl⟩ ⟨rfl, rfl, trivial⟩ (fun w m => m.pick [0] 1 rfl rfl)
 ·skip
  refine CW.region (OW.rv (RV.field rfl rfl rfl rfl) rfl (OW.slot (ptr (some b10) 0) rfl (OW.rv (RV.load rfl (List.Mem.head _) rfl rfl rfl (RcptC.C_kind (⟨a0.kind, (a0.rooted), a0.root, a0.status, a0.used, a0.bloom, .slice A2 a0.logs.length c3⟩ : RcptC))) rfl (OW.rv (RV.lss rfl rfl) rfl (OW.rv (RV.move rfl) rfl ?_)))))
  by_cases h83 : a0.kind < (0 : Int)
  ·replace hq12 := if_t hq12 h83
   refine OW.slot (.bool true) (congrArg Value.bool (decide_eq_true h83)) (OW.skip rfl rfl rfl (OW.skip rfl rfl rfl (OW.skip rfl rfl rfl (OW.rv (RV.pick_t rfl rfl rfl) rfl (OW.nil ?_)))))
   exact QW.join ⟨true, (Option.some.inj hq12).symm, rfl, rfl⟩ ⟨rfl, rfl, trivial⟩ (fun w m => m.pick [0] 1 rfl rfl)
  ·replace hq12 := if_f hq12 h83
   refine OW.slot (.bool false) (congrArg Value.bool (decide_eq_false h83)) (OW.want rfl (OW.rv (RV.field rfl rfl rfl rfl) rfl (OW.slot (ptr (some b10) 0) rfl (OW.want rfl (OW.rv (RV.load rfl (List.Mem.head _) rfl rfl rfl (RcptC.C_kind (⟨a0.kind, (a0.rooted), a0.root, a0.status, a0.used, a0.bloom, .slice A2 a0.logs.length c3⟩ : RcptC))) rfl (OW.want rfl (OW.rv (RV.gtr rfl rfl) rfl (OW.rv (RV.pick_f rfl rfl rfl) rfl (OW.nil ?_)))))))))
   exact QW.join ⟨(decide ((4 : Int) < a0.kind)), (Option.some.inj hq12).symm, rfl, rfl⟩ ⟨rfl, rfl, trivial⟩ (fun w m => m.pick [0] 1 rfl rfl)
theorem waybillref17_item_does (w0 : World) (Φ : Ctx) (N : List Ent) (hΦ : ∀ w, Mem w0 w N → Φ w) (cs0_ : List Value) (a0 : Rcpt) (res0 : It) (ha0 : RcptRd Φ cs0_ a0) (hf : waybillref17_item a0 = some res0) : DoesG Tryd.prog 65 [.agg cs0_.toArray] w0 [] N (fun v G => ∃ B : List Ent, ∃ cr0 : List Value, (ItRd (More w0 Φ B) cr0 res0) ∧ v = .agg cr0.toArray ∧ G = B) := by
 unfold waybillref17_item at hf
 replace ha0 := RcptRd.mono (Ψ := More w0 Φ []) (fun w q => q.1) _ _ ha0
 have h8 := ha0
 obtain ⟨A2, c3, cs5, e7, b1, v4, h6⟩ := RcptRd.opn ha0
 subst e7
 have m9 := v4.mx
 refine DoesG.enter Tryd.func65 rfl Tryd.ntmps65 rfl (M := (([] ++ N))) rfl (CW.seq (CW.region (OW.boxA rfl rfl (fun b10 => (OW.mem (M' := (((some b10, blk (⟨a0.kind, (a0.rooted), a0.root, a0.status, a0.used, a0.bloom, .slice A2 a0.logs.length c3⟩ : RcptC).C 30) :: []) ++ N)) (fun w m => m.pick [0] 1 rfl rfl) ?_)))))
 have gq1 : ∀ w, More w0 Φ ((some b10, blk (⟨a0.kind, (a0.rooted), a0.root, a0.status, a0.used, a0.bloom, .slice A2 a0.logs.length c3⟩ : RcptC).C 30) :: []) w → More w0 Φ [] w := fun w q => More.mono (fun w m => (m).tail) q
 replace h8 := RcptRd.mono gq1 _ _ h8
 replace v4 := v4.mono gq1
 replace h6 := h6.mono (LogRd.mono gq1)
 have hH11 : Held w0 (More w0 Φ ((some b10, blk (⟨a0.kind, (a0.rooted), a0.root, a0.status, a0.used, a0.bloom, .slice A2 a0.logs.length c3⟩ : RcptC).C 30) :: [])) b10 (⟨a0.kind, (a0.rooted), a0.root, a0.status, a0.used, a0.bloom, .slice A2 a0.logs.length c3⟩ : RcptC).C 30 := fun w q => q.2.sublist (List.singleton_sublist.2 (List.mem_cons_self ..))
 refine OW.alloc (l := [.bool false, .slice none 0 0, .slice none 0 0]) rfl rfl rfl (fun b12 => (OW.nil (QW.then_n (CW.seq (CW.region (OW.rv (RV.field rfl rfl rfl rfl) rfl (OW.slot (ptr (some b10) 34) rfl (OW.rv (RV.loadH rfl hH11 (fun w m => More.of hΦ 1 m rfl) rfl rfl (RcptC.C_status (⟨a0.kind, (a0.rooted), a0.root, a0.status, a0.used, a0.bloom, .slice A2 a0.logs.length c3⟩ : RcptC))) rfl ?_))))))))
 obtain ⟨x14, hx13, hf⟩ := some_bind hf
 refine OW.callG Tryd.call90 rfl (waybillref07_Small_does w0 (More w0 Φ ((some b10, blk (⟨a0.kind, (a0.rooted), a0.root, a0.status, a0.used, a0.bloom, .slice A2 a0.logs.length c3⟩ : RcptC).C 30) :: [])) ((some b12, blk [.bool false, .slice none 0 0, .slice none 0 0] 89) :: (((some b10, blk (⟨a0.kind, (a0.rooted), a0.root, a0.status, a0.used, a0.bloom, .slice A2 a0.logs.length c3⟩ : RcptC).C 30) :: []) ++ N)) (fun w m => More.of hΦ 1 m rfl) a0.status x14 hx13) rfl rfl ?_
 rintro L18 M19 ⟨B15, cs16, h17, e20, e21⟩
 rw [e20, e21]
 clear e20 e21 L18 M19
 refine OW.mem (M' := ((some b12, blk [.bool false, .slice none 0 0, .slice none 0 0] 89) :: ((B15 ++ ((some b10, blk (⟨a0.kind, (a0.rooted), a0.root, a0.status, a0.used, a0.bloom, .slice A2 a0.logs.length c3⟩ : RcptC).C 30) :: [])) ++ N))) (fun w m => by have h := Mem.sinkAt (A := B15) m 0 1 rfl rfl; exact h) ?_
 have gq2 : ∀ w, More w0 Φ (B15 ++ ((some b10, blk (⟨a0.kind, (a0.rooted), a0.root, a0.status, a0.used, a0.bloom, .slice A2 a0.logs.length c3⟩ : RcptC).C 30) :: [])) w → More w0 Φ ((some b10, blk (⟨a0.kind, (a0.rooted), a0.root, a0.status, a0.used, a0.bloom, .slice A2 a0.logs.length c3⟩ : RcptC).C 30) :: []) w := fun w q => More.mono (fun w m => (m).appR) q
 replace h8 := RcptRd.mono gq2 _ _ h8
 replace v4 := v4.mono gq2
 replace h6 := h6.mono (LogRd.mono gq2)
 replace hH11 := hH11.mono gq2
 replace h17 := ItRd.mono (Ψ := (More w0 Φ (B15 ++ ((some b10, blk (⟨a0.kind, (a0.rooted), a0.root, a0.status, a0.used, a0.bloom, .slice A2 a0.logs.length c3⟩ : RcptC).C 30) :: [])))) (fun w q => More.flat q) _ _ h17
 have h31 := h17
 obtain ⟨A22, c23, A25, c26, cs28, e30, v24, v27, h29⟩ := ItRd.opn h17
 subst e30
 have m32 := v24.mx
 have m33 := v27.mx
 have m34 := v24.mx
 have m35 := v27.mx
 refine OW.alloc (l := [.bool false, .slice none 0 0, .slice none 0 0]) rfl rfl rfl (fun b36 => ?_)
 refine OW.sv (SV.storeW rfl rfl rfl (by intro u hu; simp at hu; rcases hu with rfl | rfl | rfl <;> rfl) rfl rfl rfl) ?_
 refine OW.nil (QW.then_n (CW.seq (CW.seq (CW.region (OW.rv (RV.field rfl rfl rfl rfl) rfl (OW.slot (ptr (some b10) 1) rfl (OW.rv (RV.loadH rfl hH11 (fun w m => More.of hΦ 2 m rfl) rfl rfl (RcptC.C_rooted (⟨a0.kind, (a0.rooted), a0.root, a0.status, a0.used, a0.bloom, .slice A2 a0.logs.length c3⟩ : RcptC))) rfl (OW.nil (QW.then_n ?_)))))))))
 obtain ⟨q37, hq38, hf⟩ := some_bind hf
 refine CW.cutJ (fun L' M' => ∃ p41 : Bool, ∃ l42 : List (BitVec 8), ∃ l46 : List (It), ∃ B39 : List Ent, ∃ A43 : Option Addr, ∃ c44 : Nat, ∃ cs47 : List Value, ∃ A49 : Option Addr, ∃ c50 : Nat, q37 = (p41, l42, l46) ∧ (∀ w, Mem w0 w B39 → Mem w0 w (B15 ++ ((some b10, blk (⟨a0.kind, (a0.rooted), a0.root, a0.status, a0.used, a0.bloom, .slice A2 a0.logs.length c3⟩ : RcptC).C 30) :: []))) ∧ (View (More w0 Φ B39) A43 l42.length c44 1 (u8s l42)) ∧ (Reps (ItRd (More w0 Φ B39)) cs47 l46) ∧ (View (More w0 Φ B39) A49 l46.length c50 3 cs47) ∧ L' = [(1, ptr (some b10) 0), (2, ptr (some b12) 0), (3, ptr (some b36) 0)] ∧ M' = ((some b36, blk [.bool (p41), .slice A43 l42.length c44, .slice A49 l46.length c50] 89) :: (some b12, blk [.bool false, .slice none 0 0, .slice none 0 0] 89) :: (B39 ++ N))) ?_ ?_
 ·rintro L53 M54 ⟨p41, l42, l46, B39, A43, c44, cs47, A49, c50, e52, hB40, v45, h48, v51, e55, e56⟩
  rw [e55, e56]
  clear e55 e56 L53 M54
  clear hq38
  rw [e52] at hf
  clear e52
  try dsimp only at hf
  have gq3 : ∀ w, More w0 Φ B39 w → More w0 Φ (B15 ++ ((some b10, blk (⟨a0.kind, (a0.rooted), a0.root, a0.status, a0.used, a0.bloom, .slice A2 a0.logs.length c3⟩ : RcptC).C 30) :: [])) w := fun w q => More.mono (fun w m => hB40 w (m)) q
  replace hH11 := hH11.mono gq3
  replace h8 := RcptRd.mono gq3 _ _ h8
  replace v4 := v4.mono gq3
  replace h6 := h6.mono (LogRd.mono gq3)
  have m57 := v45.mx
  have m58 := v51.mx
  refine QW.then_n (CW.seq (CW.region (OW.rv (RV.field rfl rfl rfl rfl) rfl (OW.slot (ptr (some b10) 36) rfl (OW.rv (RV.loadAH rfl hH11 (fun w m => More.of hΦ 2 m rfl) rfl rfl rfl (RcptC.C_bloom_all (⟨a0.kind, (a0.rooted), a0.root, a0.status, a0.used, a0.bloom, .slice A2 a0.logs.length c3⟩ : RcptC)) ((u8s_length _).trans Vector.length_toList)) rfl (OW.alloc (l := (u8s (Vector.replicate 256 0#8).toList)) rfl (by rw [Vector.toList_replicate, ← u8s_rep']; rfl) rfl (fun b59 => (OW.sv (SV.storeW rfl rfl rfl (u8s_one _) rfl ((u8s_length _).trans Vector.length_toList) ((u8s_length _).trans Vector.length_toList)) (OW.nil (QW.then_n (CW.seq (CW.region (OW.rv (RV.buildSt (l := [.bool false, .slice none 0 0, .slice none 0 0]) (cs := [.bool true, .slice none 0 0, .slice none 0 0]) [(0, [.bool true])] rfl rfl rfl rfl rfl rfl rfl) rfl (OW.alloc (l := [.bool false, .slice none 0 0, .slice none 0 0]) rfl rfl rfl (fun b60 => ?_)))))))))))))))
  refine OW.sv (SV.storeW rfl rfl rfl (by intro u hu; simp at hu; rcases hu with rfl | rfl | rfl <;> rfl) rfl rfl rfl) ?_
  refine OW.nil (QW.then_n (CW.seq (CW.seq (CW.region (OW.rv (RV.assign rfl) rfl (OW.nil (QW.then_n ?_)))))))
  obtain ⟨q61, hq62, hf⟩ := some_bind hf
  refine CW.cutJ (fun L' M' => ∃ p65 : Bool, ∃ l66 : List (BitVec 8), ∃ l71 : List (It), ∃ B63 : List Ent, ∃ ob67 : Option Nat, ∃ c68 : Nat, ∃ r69 : List Value, ∃ cs72 : List Value, ∃ ob74 : Option Nat, ∃ c75 : Nat, ∃ r76 : List Value, q61 = (p65, l66, l71) ∧ (∀ w, Mem w0 w B63 → Mem w0 w B39) ∧ (OwnS ob67 l66.length c68 1 (u8s l66) r69) ∧ (Reps (ItRd (More w0 Φ B63)) cs72 l71) ∧ (OwnS ob74 l71.length c75 3 cs72 r76) ∧ L' = [(1, ptr (some b10) 0), (2, ptr (some b12) 0), (3, ptr (some b36) 0), (5, ptr (some b59) 0), (6, ptr (some b60) 0)] ∧ M' = ((ob67, blk ((u8s l66) ++ r69) 5) :: (ob74, blk (cs72 ++ r76) 89) :: (some b60, blk [.bool (p65), sl ob67 0 l66.length c68, sl ob74 0 l71.length c75] 89) :: (some b59, blk (u8s a0.bloom.toList) 27) :: (some b36, blk [.bool (p41), .slice A43 l42.length c44, .slice A49 l46.length c50] 89) :: (some b12, blk [.bool false, .slice none 0 0, .slice none 0 0] 89) :: (B63 ++ N))) ?_ ?_
  ·rintro L79 M80 ⟨p65, l66, l71, B63, ob67, c68, r69, cs72, ob74, c75, r76, e78, hB64, o70, h73, o77, e81, e82⟩
   rw [e81, e82]
   clear e81 e82 L79 M80
   clear hq62
   rw [e78] at hf
   clear e78
   try dsimp only at hf
   have gq4 : ∀ w, More w0 Φ B63 w → More w0 Φ B39 w := fun w q => More.mono (fun w m => hB64 w (m)) q
   replace hH11 := hH11.mono gq4
   replace h8 := RcptRd.mono gq4 _ _ h8
   replace v4 := v4.mono gq4
   replace h6 := h6.mono (LogRd.mono gq4)
   replace v45 := v45.mono gq4
   replace v51 := v51.mono gq4
   replace h48 := h48.mono (ItRd.mono gq4)
   have m83 := o70.mx
   have m84 := o77.mx
   refine QW.then_n (CW.seq (CW.mem (M' := (ob67, blk ((u8s l66) ++ r69) 5) :: (ob74, blk (cs72 ++ r76) 89) :: (some b60, blk [.bool (p65), sl ob67 0 l66.length c68, sl ob74 0 l71.length c75] 89) :: (some b36, blk [.bool (p41), .slice A43 l42.length c44, .slice A49 l46.length c50] 89) :: (some b12, blk [.bool false, .slice none 0 0, .slice none 0 0] 89) :: (((some b59, blk (u8s a0.bloom.toList) 27) :: B63) ++ N)) (fun w m => m.pick [0, 1, 2, 4, 5, 3] 6 rfl rfl) ?_))
   have gq5 : ∀ w, More w0 Φ ((some b59, blk (u8s a0.bloom.toList) 27) :: B63) w → More w0 Φ B63 w := fun w q => More.mono (fun w m => (m).tail) q
   replace hH11 := hH11.mono gq5
   replace h8 := RcptRd.mono gq5 _ _ h8
   replace v4 := v4.mono gq5
   replace h6 := h6.mono (LogRd.mono gq5)
   replace h73 := h73.mono (ItRd.mono gq5)
   replace v45 := v45.mono gq5
   replace v51 := v51.mono gq5
   replace h48 := h48.mono (ItRd.mono gq5)
   have v85 : View (More w0 Φ ((some b59, blk (u8s a0.bloom.toList) 27) :: B63)) (some ⟨b59, 0, none⟩) a0.bloom.toList.length 256 1 (u8s a0.bloom.toList) := View.arr (w0 := w0) (te := 27) (fun w q => q.2.sublist (List.singleton_sublist.2 (List.mem_cons_self ..))) (by decide)
   refine CW.mem (M' := (ob74, blk (cs72 ++ r76) 89) :: (some b60, blk [.bool (p65), sl ob67 0 l66.length c68, sl ob74 0 l71.length c75] 89) :: (some b36, blk [.bool (p41), .slice A43 l42.length c44, .slice A49 l46.length c50] 89) :: (some b12, blk [.bool false, .slice none 0 0, .slice none 0 0] 89) :: (((ob67, blk ((u8s l66) ++ r69) 5) :: ((some b59, blk (u8s a0.bloom.toList) 27) :: B63)) ++ N)) (fun w m => m.pick [1, 2, 3, 4, 0] 5 rfl rfl) ?_
   have gq6 : ∀ w, More w0 Φ ((ob67, blk ((u8s l66) ++ r69) 5) :: ((some b59, blk (u8s a0.bloom.toList) 27) :: B63)) w → More w0 Φ ((some b59, blk (u8s a0.bloom.toList) 27) :: B63) w := fun w q => More.mono (fun w m => (m).tail) q
   replace hH11 := hH11.mono gq6
   replace h8 := RcptRd.mono gq6 _ _ h8
   replace v4 := v4.mono gq6
   replace h6 := h6.mono (LogRd.mono gq6)
   replace v85 := v85.mono gq6
   replace h73 := h73.mono (ItRd.mono gq6)
   replace v45 := v45.mono gq6
   replace v51 := v51.mono gq6
   replace h48 := h48.mono (ItRd.mono gq6)
   have v86 : View (More w0 Φ ((ob67, blk ((u8s l66) ++ r69) 5) :: ((some b59, blk (u8s a0.bloom.toList) 27) :: B63))) ((ob67).map fun k => ⟨k, 0, none⟩) l66.length c68 1 (u8s l66) := o70.view (by decide) (fun w q => q.2.sublist (List.singleton_sublist.2 (List.mem_cons_self ..)))
   refine CW.mem (M' := (some b60, blk [.bool (p65), .slice ((ob67).map fun k => ⟨k, 0, none⟩) l66.length c68, sl ob74 0 l71.length c75] 89) :: (some b36, blk [.bool (p41), .slice A43 l42.length c44, .slice A49 l46.length c50] 89) :: (some b12, blk [.bool false, .slice none 0 0, .slice none 0 0] 89) :: (((ob74, blk (cs72 ++ r76) 89) :: ((ob67, blk ((u8s l66) ++ r69) 5) :: ((some b59, blk (u8s a0.bloom.toList) 27) :: B63))) ++ N)) (fun w m => m.pick [1, 2, 3, 0] 4 rfl rfl) ?_
   have gq7 : ∀ w, More w0 Φ ((ob74, blk (cs72 ++ r76) 89) :: ((ob67, blk ((u8s l66) ++ r69) 5) :: ((some b59, blk (u8s a0.bloom.toList) 27) :: B63))) w → More w0 Φ ((ob67, blk ((u8s l66) ++ r69) 5) :: ((some b59, blk (u8s a0.bloom.toList) 27) :: B63)) w := fun w q => More.mono (fun w m => (m).tail) q
   replace hH11 := hH11.mono gq7
   replace h8 := RcptRd.mono gq7 _ _ h8
   replace v4 := v4.mono gq7
   replace h6 := h6.mono (LogRd.mono gq7)
   replace v85 := v85.mono gq7
   replace v86 := v86.mono gq7
   replace h73 := h73.mono (ItRd.mono gq7)
   replace v45 := v45.mono gq7
   replace v51 := v51.mono gq7
   replace h48 := h48.mono (ItRd.mono gq7)
   have v87 : View (More w0 Φ ((ob74, blk (cs72 ++ r76) 89) :: ((ob67, blk ((u8s l66) ++ r69) 5) :: ((some b59, blk (u8s a0.bloom.toList) 27) :: B63)))) ((ob74).map fun k => ⟨k, 0, none⟩) l71.length c75 3 cs72 := o77.view (by decide) (fun w q => q.2.sublist (List.singleton_sublist.2 (List.mem_cons_self ..)))
   refine CW.drawsX ((some b60, blk [.bool (p65), .slice ((ob67).map fun k => ⟨k, 0, none⟩) l66.length c68, .slice ((ob74).map fun k => ⟨k, 0, none⟩) l71.length c75] 89) :: (some b36, blk [.bool (p41), .slice A43 l42.length c44, .slice A49 l46.length c50] 89) :: (((ob74, blk (cs72 ++ r76) 89) :: ((ob67, blk ((u8s l66) ++ r69) 5) :: ((some b59, blk (u8s a0.bloom.toList) 27) :: B63))) ++ N)) [9] (fun w m => m.pick [0, 1] 3 rfl rfl) mixed (by kernel_rfl) (XW.rs 0 rfl (by kernel_rfl) rfl (RV.loadW rfl (List.Mem.tail _ (List.Mem.head _)) rfl rfl rfl rfl rfl) rfl (XW.rs 1 rfl (by kernel_rfl) rfl (RV.field rfl rfl rfl rfl) rfl (XW.slot (ptr (some b10) 35) rfl (XW.rs 2 rfl (by kernel_rfl) rfl (RV.loadH rfl hH11 (fun w m => More.of hΦ 2 m rfl) rfl rfl (RcptC.C_used (⟨a0.kind, (a0.rooted), a0.root, a0.status, a0.used, a0.bloom, .slice A2 a0.logs.length c3⟩ : RcptC))) rfl (XW.rs 4 rfl (by kernel_rfl) rfl (RV.arr_all rfl rfl rfl) rfl ?_)))))
   refine XW.slot (.slice (some ⟨b59, 0, none⟩) a0.bloom.toList.length 256) (by rw [Vector.length_toList]; try rfl) ?_
   have v88 := v85
   have m89 := v88.mx
   refine XW.rs 6 rfl (by kernel_rfl) rfl (RV.loadW rfl (List.Mem.head _) rfl rfl rfl rfl rfl) rfl ?_
   obtain ⟨x91, hx90, hf⟩ := some_bind hf
   refine XW.callG 3 rfl (by kernel_rfl) rfl Tryd.call90 rfl (fun N' hN' => waybillref07_Small_does w0 (More w0 Φ ((ob74, blk (cs72 ++ r76) 89) :: ((ob67, blk ((u8s l66) ++ r69) 5) :: ((some b59, blk (u8s a0.bloom.toList) 27) :: B63)))) N' (fun w m => More.of hΦ 3 (hN' w m) rfl) a0.used x91 hx90) rfl ?_
   rintro L95 M96 ⟨B92, cs93, h94, e97, e98⟩
   rw [e97, e98]
   clear e97 e98 L95 M96
   refine XW.mem (M' := ((some b60, blk [.bool (p65), .slice ((ob67).map fun k => ⟨k, 0, none⟩) l66.length c68, .slice ((ob74).map fun k => ⟨k, 0, none⟩) l71.length c75] 89) :: (some b36, blk [.bool (p41), .slice A43 l42.length c44, .slice A49 l46.length c50] 89) :: (some b12, blk [.bool false, .slice none 0 0, .slice none 0 0] 89) :: ((B92 ++ ((ob74, blk (cs72 ++ r76) 89) :: ((ob67, blk ((u8s l66) ++ r69) 5) :: ((some b59, blk (u8s a0.bloom.toList) 27) :: B63)))) ++ N))) (fun w m => by have h := Mem.sinkAt (A := B92) m 0 3 rfl rfl; exact h) (fun w m => by have h := Mem.shrink (B := ((ob74, blk (cs72 ++ r76) 89) :: ((ob67, blk ((u8s l66) ++ r69) 5) :: ((some b59, blk (u8s a0.bloom.toList) 27) :: B63)))) (B' := (B92 ++ ((ob74, blk (cs72 ++ r76) 89) :: ((ob67, blk ((u8s l66) ++ r69) 5) :: ((some b59, blk (u8s a0.bloom.toList) 27) :: B63))))) (List.sublist_append_right _ _) (m.pick [0, 1] 3 rfl rfl) 2 rfl; exact h) ?_
   have gq8 : ∀ w, More w0 Φ (B92 ++ ((ob74, blk (cs72 ++ r76) 89) :: ((ob67, blk ((u8s l66) ++ r69) 5) :: ((some b59, blk (u8s a0.bloom.toList) 27) :: B63)))) w → More w0 Φ ((ob74, blk (cs72 ++ r76) 89) :: ((ob67, blk ((u8s l66) ++ r69) 5) :: ((some b59, blk (u8s a0.bloom.toList) 27) :: B63))) w := fun w q => More.mono (fun w m => (m).appR) q
   replace hH11 := hH11.mono gq8
   replace h8 := RcptRd.mono gq8 _ _ h8
   replace v4 := v4.mono gq8
   replace h6 := h6.mono (LogRd.mono gq8)
   replace v85 := v85.mono gq8
   replace v45 := v45.mono gq8
   replace v51 := v51.mono gq8
   replace h48 := h48.mono (ItRd.mono gq8)
   replace v88 := v88.mono gq8
   replace v86 := v86.mono gq8
   replace v87 := v87.mono gq8
   replace h73 := h73.mono (ItRd.mono gq8)
   replace h94 := ItRd.mono (Ψ := (More w0 Φ (B92 ++ ((ob74, blk (cs72 ++ r76) 89) :: ((ob67, blk ((u8s l66) ++ r69) 5) :: ((some b59, blk (u8s a0.bloom.toList) 27) :: B63)))))) (fun w q => More.flat q) _ _ h94
   have h108 := h94
   obtain ⟨A99, c100, A102, c103, cs105, e107, v101, v104, h106⟩ := ItRd.opn h94
   subst e107
   have m109 := v101.mx
   have m110 := v104.mx
   have m111 := v101.mx
   have m112 := v104.mx
   obtain ⟨x114, hx113, hf⟩ := some_bind hf
   refine XW.callG 5 rfl (by kernel_rfl) rfl Tryd.call52 rfl (fun N' hN' => waybillref17_text_does w0 (More w0 Φ (B92 ++ ((ob74, blk (cs72 ++ r76) 89) :: ((ob67, blk ((u8s l66) ++ r69) 5) :: ((some b59, blk (u8s a0.bloom.toList) 27) :: B63))))) N' (fun w m => More.of hΦ 3 (hN' w m) rfl) (some ⟨b59, 0, none⟩) 256 a0.bloom.toList x114 v88 hx113) rfl ?_
   rintro L118 M119 ⟨B115, cs116, h117, e120, e121⟩
   rw [e120, e121]
   clear e120 e121 L118 M119
   refine XW.mem (M' := ((some b60, blk [.bool (p65), .slice ((ob67).map fun k => ⟨k, 0, none⟩) l66.length c68, .slice ((ob74).map fun k => ⟨k, 0, none⟩) l71.length c75] 89) :: (some b36, blk [.bool (p41), .slice A43 l42.length c44, .slice A49 l46.length c50] 89) :: (some b12, blk [.bool false, .slice none 0 0, .slice none 0 0] 89) :: ((B115 ++ (B92 ++ ((ob74, blk (cs72 ++ r76) 89) :: ((ob67, blk ((u8s l66) ++ r69) 5) :: ((some b59, blk (u8s a0.bloom.toList) 27) :: B63))))) ++ N))) (fun w m => by have h := Mem.sinkAt (A := B115) m 0 3 rfl rfl; exact h) (fun w m => by have h := Mem.shrink (B := ((ob74, blk (cs72 ++ r76) 89) :: ((ob67, blk ((u8s l66) ++ r69) 5) :: ((some b59, blk (u8s a0.bloom.toList) 27) :: B63)))) (B' := (B115 ++ (B92 ++ ((ob74, blk (cs72 ++ r76) 89) :: ((ob67, blk ((u8s l66) ++ r69) 5) :: ((some b59, blk (u8s a0.bloom.toList) 27) :: B63)))))) ((List.sublist_append_right _ _).trans (List.sublist_append_right _ _)) (m.pick [0, 1] 3 rfl rfl) 2 rfl; exact h) ?_
   have gq9 : ∀ w, More w0 Φ (B115 ++ (B92 ++ ((ob74, blk (cs72 ++ r76) 89) :: ((ob67, blk ((u8s l66) ++ r69) 5) :: ((some b59, blk (u8s a0.bloom.toList) 27) :: B63))))) w → More w0 Φ (B92 ++ ((ob74, blk (cs72 ++ r76) 89) :: ((ob67, blk ((u8s l66) ++ r69) 5) :: ((some b59, blk (u8s a0.bloom.toList) 27) :: B63)))) w := fun w q => More.mono (fun w m => (m).appR) q
   replace hH11 := hH11.mono gq9
   replace h8 := RcptRd.mono gq9 _ _ h8
   replace v4 := v4.mono gq9
   replace h6 := h6.mono (LogRd.mono gq9)
   replace v85 := v85.mono gq9
   replace v45 := v45.mono gq9
   replace v51 := v51.mono gq9
   replace h48 := h48.mono (ItRd.mono gq9)
   replace v88 := v88.mono gq9
   replace v86 := v86.mono gq9
   replace v87 := v87.mono gq9
   replace h73 := h73.mono (ItRd.mono gq9)
   replace h108 := ItRd.mono gq9 _ _ h108
   replace v101 := v101.mono gq9
   replace v104 := v104.mono gq9
   replace h106 := h106.mono (ItRd.mono gq9)
   replace h117 := ItRd.mono (Ψ := (More w0 Φ (B115 ++ (B92 ++ ((ob74, blk (cs72 ++ r76) 89) :: ((ob67, blk ((u8s l66) ++ r69) 5) :: ((some b59, blk (u8s a0.bloom.toList) 27) :: B63))))))) (fun w q => More.flat q) _ _ h117
   have h131 := h117
   obtain ⟨A122, c123, A125, c126, cs128, e130, v124, v127, h129⟩ := ItRd.opn h117
   subst e130
   have m132 := v124.mx
   have m133 := v127.mx
   have m134 := v124.mx
   have m135 := v127.mx
   refine XW.new 7 rfl (by kernel_rfl) rfl (NV.bsA rfl rfl (by intro x hx; simp at hx; rcases hx with rfl | rfl | rfl | rfl <;> exact rfl) rfl rfl rfl (by decide) (by decide) rfl) rfl (fun b136 => ?_)
   have h139 : Reps (ItRd (More w0 Φ (B115 ++ (B92 ++ ((ob74, blk (cs72 ++ r76) 89) :: ((ob67, blk ((u8s l66) ++ r69) 5) :: ((some b59, blk (u8s a0.bloom.toList) 27) :: B63))))))) (([.bool (p41), .slice A43 l42.length c44, .slice A49 l46.length c50] : List Value) ++ ([.bool (x91.list), .slice A99 x91.data.length c100, .slice A102 x91.items.length c103] : List Value) ++ ([.bool (x114.list), .slice A122 x114.data.length c123, .slice A125 x114.items.length c126] : List Value) ++ ([.bool (p65), .slice ((ob67).map fun k => ⟨k, 0, none⟩) l66.length c68, .slice ((ob74).map fun k => ⟨k, 0, none⟩) l71.length c75] : List Value)) [(It.mk (p41) l42 l46), x91, x114, (It.mk (p65) l66 l71)] := by simpa using (show Reps (ItRd (More w0 Φ (B115 ++ (B92 ++ ((ob74, blk (cs72 ++ r76) 89) :: ((ob67, blk ((u8s l66) ++ r69) 5) :: ((some b59, blk (u8s a0.bloom.toList) 27) :: B63))))))) _ [(It.mk (p41) l42 l46), x91, x114, (It.mk (p65) l66 l71)] from (.cons (ItRd.mk v45 v51 h48) (.cons h108 (.cons h131 (.cons (ItRd.mk v86 v87 h73) .nil)))))
   refine XW.mem (M' := (((some b136), blk ((([.bool (p41), .slice A43 l42.length c44, .slice A49 l46.length c50] : List Value) ++ ([.bool (x91.list), .slice A99 x91.data.length c100, .slice A102 x91.items.length c103] : List Value) ++ ([.bool (x114.list), .slice A122 x114.data.length c123, .slice A125 x114.items.length c126] : List Value) ++ ([.bool (p65), .slice ((ob67).map fun k => ⟨k, 0, none⟩) l66.length c68, .slice ((ob74).map fun k => ⟨k, 0, none⟩) l71.length c75] : List Value)) ++ []) 89) :: (some b60, blk [.bool (p65), .slice ((ob67).map fun k => ⟨k, 0, none⟩) l66.length c68, .slice ((ob74).map fun k => ⟨k, 0, none⟩) l71.length c75] 89) :: (some b36, blk [.bool (p41), .slice A43 l42.length c44, .slice A49 l46.length c50] 89) :: (some b12, blk [.bool false, .slice none 0 0, .slice none 0 0] 89) :: ((B115 ++ (B92 ++ ((ob74, blk (cs72 ++ r76) 89) :: ((ob67, blk ((u8s l66) ++ r69) 5) :: ((some b59, blk (u8s a0.bloom.toList) 27) :: B63))))) ++ N))) (fun w m => m) (fun w m => by have h := Mem.shrink (B := ((ob74, blk (cs72 ++ r76) 89) :: ((ob67, blk ((u8s l66) ++ r69) 5) :: ((some b59, blk (u8s a0.bloom.toList) 27) :: B63)))) (B' := (B115 ++ (B92 ++ ((ob74, blk (cs72 ++ r76) 89) :: ((ob67, blk ((u8s l66) ++ r69) 5) :: ((some b59, blk (u8s a0.bloom.toList) 27) :: B63)))))) ((List.sublist_append_right _ _).trans (List.sublist_append_right _ _)) (m.pick [1, 2] 4 rfl rfl) 2 rfl; exact h) ?_
   have o137 : OwnS (some b136) ([(It.mk (p41) l42 l46), x91, x114, (It.mk (p65) l66 l71)] : List (It)).length 4 3 (([.bool (p41), .slice A43 l42.length c44, .slice A49 l46.length c50] : List Value) ++ ([.bool (x91.list), .slice A99 x91.data.length c100, .slice A102 x91.items.length c103] : List Value) ++ ([.bool (x114.list), .slice A122 x114.data.length c123, .slice A125 x114.items.length c126] : List Value) ++ ([.bool (p65), .slice ((ob67).map fun k => ⟨k, 0, none⟩) l66.length c68, .slice ((ob74).map fun k => ⟨k, 0, none⟩) l71.length c75] : List Value)) [] := ⟨by simp [ItRd], by simp [ItRd], (fun h => nomatch h), by simp⟩
   have mx_o137 := o137.mx
   refine XW.slot (sl (some b136) 0 ([(It.mk (p41) l42 l46), x91, x114, (It.mk (p65) l66 l71)] : List (It)).length 4) (rfl) (XW.rs 8 rfl (by kernel_rfl) rfl (RV.buildSt (l := [.bool false, .slice none 0 0, .slice none 0 0]) (cs := [.bool true, .slice none 0 0, sl (some b136) 0 ([(It.mk (p41) l42 l46), x91, x114, (It.mk (p65) l66 l71)] : List (It)).length 4]) [(0, [.bool true]), (2, [sl (some b136) 0 ([(It.mk (p41) l42 l46), x91, x114, (It.mk (p65) l66 l71)] : List (It)).length 4])] rfl rfl rfl rfl rfl rfl rfl) rfl ?_)
   refine XW.mem (M' := ((some b12, blk [.bool false, .slice none 0 0, .slice none 0 0] 89) :: ((some b136), blk ((([.bool (p41), .slice A43 l42.length c44, .slice A49 l46.length c50] : List Value) ++ ([.bool (x91.list), .slice A99 x91.data.length c100, .slice A102 x91.items.length c103] : List Value) ++ ([.bool (x114.list), .slice A122 x114.data.length c123, .slice A125 x114.items.length c126] : List Value) ++ ([.bool (p65), .slice ((ob67).map fun k => ⟨k, 0, none⟩) l66.length c68, .slice ((ob74).map fun k => ⟨k, 0, none⟩) l71.length c75] : List Value)) ++ []) 89) :: (some b60, blk [.bool (p65), .slice ((ob67).map fun k => ⟨k, 0, none⟩) l66.length c68, .slice ((ob74).map fun k => ⟨k, 0, none⟩) l71.length c75] 89) :: (some b36, blk [.bool (p41), .slice A43 l42.length c44, .slice A49 l46.length c50] 89) :: ((B115 ++ (B92 ++ ((ob74, blk (cs72 ++ r76) 89) :: ((ob67, blk ((u8s l66) ++ r69) 5) :: ((some b59, blk (u8s a0.bloom.toList) 27) :: B63))))) ++ N))) (fun w m => m.pick [3, 0, 1, 2] 4 rfl rfl) (fun w m => by have h := Mem.shrink (B := ((ob74, blk (cs72 ++ r76) 89) :: ((ob67, blk ((u8s l66) ++ r69) 5) :: ((some b59, blk (u8s a0.bloom.toList) 27) :: B63)))) (B' := (B115 ++ (B92 ++ ((ob74, blk (cs72 ++ r76) 89) :: ((ob67, blk ((u8s l66) ++ r69) 5) :: ((some b59, blk (u8s a0.bloom.toList) 27) :: B63)))))) ((List.sublist_append_right _ _).trans (List.sublist_append_right _ _)) (m.pick [2, 3] 4 rfl rfl) 2 rfl; exact h) ?_
   refine XW.sv 9 rfl (by kernel_rfl) (SV.storeW rfl rfl rfl (by intro u hu; simp at hu; rcases hu with rfl | rfl | rfl <;> rfl) rfl rfl rfl) (fun w m => by have h := Mem.shrink (B := ((ob74, blk (cs72 ++ r76) 89) :: ((ob67, blk ((u8s l66) ++ r69) 5) :: ((some b59, blk (u8s a0.bloom.toList) 27) :: B63)))) (B' := (B115 ++ (B92 ++ ((ob74, blk (cs72 ++ r76) 89) :: ((ob67, blk ((u8s l66) ++ r69) 5) :: ((some b59, blk (u8s a0.bloom.toList) 27) :: B63)))))) ((List.sublist_append_right _ _).trans (List.sublist_append_right _ _)) (m.pick [2, 3] 4 rfl rfl) 2 rfl; exact h) ?_
   refine XW.nil (by kernel_rfl) (QW.then_n (CW.ret (QW.mem (M' := (some b12, blk [.bool true, .slice none 0 0, sl (some b136) 0 ([(It.mk (p41) l42 l46), x91, x114, (It.mk (p65) l66 l71)] : List (It)).length 4] 89) :: (some b60, blk [.bool (p65), .slice ((ob67).map fun k => ⟨k, 0, none⟩) l66.length c68, .slice ((ob74).map fun k => ⟨k, 0, none⟩) l71.length c75] 89) :: (some b36, blk [.bool (p41), .slice A43 l42.length c44, .slice A49 l46.length c50] 89) :: ((((some b136), blk ((([.bool (p41), .slice A43 l42.length c44, .slice A49 l46.length c50] : List Value) ++ ([.bool (x91.list), .slice A99 x91.data.length c100, .slice A102 x91.items.length c103] : List Value) ++ ([.bool (x114.list), .slice A122 x114.data.length c123, .slice A125 x114.items.length c126] : List Value) ++ ([.bool (p65), .slice ((ob67).map fun k => ⟨k, 0, none⟩) l66.length c68, .slice ((ob74).map fun k => ⟨k, 0, none⟩) l71.length c75] : List Value)) ++ []) 89) :: (B115 ++ (B92 ++ ((ob74, blk (cs72 ++ r76) 89) :: ((ob67, blk ((u8s l66) ++ r69) 5) :: ((some b59, blk (u8s a0.bloom.toList) 27) :: B63)))))) ++ N)) (fun w m => m.pick [0, 2, 3, 1] 4 rfl rfl) ?_)))
   have gq10 : ∀ w, More w0 Φ (((some b136), blk ((([.bool (p41), .slice A43 l42.length c44, .slice A49 l46.length c50] : List Value) ++ ([.bool (x91.list), .slice A99 x91.data.length c100, .slice A102 x91.items.length c103] : List Value) ++ ([.bool (x114.list), .slice A122 x114.data.length c123, .slice A125 x114.items.length c126] : List Value) ++ ([.bool (p65), .slice ((ob67).map fun k => ⟨k, 0, none⟩) l66.length c68, .slice ((ob74).map fun k => ⟨k, 0, none⟩) l71.length c75] : List Value)) ++ []) 89) :: (B115 ++ (B92 ++ ((ob74, blk (cs72 ++ r76) 89) :: ((ob67, blk ((u8s l66) ++ r69) 5) :: ((some b59, blk (u8s a0.bloom.toList) 27) :: B63)))))) w → More w0 Φ (B115 ++ (B92 ++ ((ob74, blk (cs72 ++ r76) 89) :: ((ob67, blk ((u8s l66) ++ r69) 5) :: ((some b59, blk (u8s a0.bloom.toList) 27) :: B63))))) w := fun w q => More.mono (fun w m => (m).tail) q
   replace hH11 := hH11.mono gq10
   replace h8 := RcptRd.mono gq10 _ _ h8
   replace v4 := v4.mono gq10
   replace h6 := h6.mono (LogRd.mono gq10)
   replace v85 := v85.mono gq10
   replace v45 := v45.mono gq10
   replace v51 := v51.mono gq10
   replace h48 := h48.mono (ItRd.mono gq10)
   replace v88 := v88.mono gq10
   replace v86 := v86.mono gq10
   replace v87 := v87.mono gq10
   replace h73 := h73.mono (ItRd.mono gq10)
   replace h108 := ItRd.mono gq10 _ _ h108
   replace v101 := v101.mono gq10
   replace v104 := v104.mono gq10
   replace h106 := h106.mono (ItRd.mono gq10)
   replace h131 := ItRd.mono gq10 _ _ h131
   replace v124 := v124.mono gq10
   replace v127 := v127.mono gq10
   replace h129 := h129.mono (ItRd.mono gq10)
   replace h139 := h139.mono (ItRd.mono gq10)
   have v140 : View (More w0 Φ (((some b136), blk ((([.bool (p41), .slice A43 l42.length c44, .slice A49 l46.length c50] : List Value) ++ ([.bool (x91.list), .slice A99 x91.data.length c100, .slice A102 x91.items.length c103] : List Value) ++ ([.bool (x114.list), .slice A122 x114.data.length c123, .slice A125 x114.items.length c126] : List Value) ++ ([.bool (p65), .slice ((ob67).map fun k => ⟨k, 0, none⟩) l66.length c68, .slice ((ob74).map fun k => ⟨k, 0, none⟩) l71.length c75] : List Value)) ++ []) 89) :: (B115 ++ (B92 ++ ((ob74, blk (cs72 ++ r76) 89) :: ((ob67, blk ((u8s l66) ++ r69) 5) :: ((some b59, blk (u8s a0.bloom.toList) 27) :: B63))))))) (((some b136)).map fun k => ⟨k, 0, none⟩) ([(It.mk (p41) l42 l46), x91, x114, (It.mk (p65) l66 l71)] : List (It)).length 4 3 (([.bool (p41), .slice A43 l42.length c44, .slice A49 l46.length c50] : List Value) ++ ([.bool (x91.list), .slice A99 x91.data.length c100, .slice A102 x91.items.length c103] : List Value) ++ ([.bool (x114.list), .slice A122 x114.data.length c123, .slice A125 x114.items.length c126] : List Value) ++ ([.bool (p65), .slice ((ob67).map fun k => ⟨k, 0, none⟩) l66.length c68, .slice ((ob74).map fun k => ⟨k, 0, none⟩) l71.length c75] : List Value)) := o137.view (by decide) (fun w q => q.2.sublist (List.singleton_sublist.2 (List.mem_cons_self ..)))
   have e0 := Option.some.inj hf
   subst e0
   have v141 : View (More w0 Φ (((some b136), blk ((([.bool (p41), .slice A43 l42.length c44, .slice A49 l46.length c50] : List Value) ++ ([.bool (x91.list), .slice A99 x91.data.length c100, .slice A102 x91.items.length c103] : List Value) ++ ([.bool (x114.list), .slice A122 x114.data.length c123, .slice A125 x114.items.length c126] : List Value) ++ ([.bool (p65), .slice ((ob67).map fun k => ⟨k, 0, none⟩) l66.length c68, .slice ((ob74).map fun k => ⟨k, 0, none⟩) l71.length c75] : List Value)) ++ []) 89) :: (B115 ++ (B92 ++ ((ob74, blk (cs72 ++ r76) 89) :: ((ob67, blk ((u8s l66) ++ r69) 5) :: ((some b59, blk (u8s a0.bloom.toList) 27) :: B63))))))) none ([] : List (BitVec 8)).length 0 1 (u8s []) := View.nil
   refine QW.retG (rs := [.cell 2 89]) ([.agg [.bool true, .slice none 0 0, .slice (((some b136)).map fun k => ⟨k, 0, none⟩) ([(It.mk (p41) l42 l46), x91, x114, (It.mk (p65) l66 l71)] : List (It)).length 4].toArray]) ((((some b136), blk ((([.bool (p41), .slice A43 l42.length c44, .slice A49 l46.length c50] : List Value) ++ ([.bool (x91.list), .slice A99 x91.data.length c100, .slice A102 x91.items.length c103] : List Value) ++ ([.bool (x114.list), .slice A122 x114.data.length c123, .slice A125 x114.items.length c126] : List Value) ++ ([.bool (p65), .slice ((ob67).map fun k => ⟨k, 0, none⟩) l66.length c68, .slice ((ob74).map fun k => ⟨k, 0, none⟩) l71.length c75] : List Value)) ++ []) 89) :: (B115 ++ (B92 ++ ((ob74, blk (cs72 ++ r76) 89) :: ((ob67, blk ((u8s l66) ++ r69) 5) :: ((some b59, blk (u8s a0.bloom.toList) 27) :: B63))))))) rfl ?_ rfl ?_ ?_ _ (.inl rfl)
   ·exact ⟨⟨_, _, _, _, rfl, (List.Mem.head _), rfl, rfl, rfl, rfl⟩, trivial⟩
   ·exact ⟨(((some b136), blk ((([.bool (p41), .slice A43 l42.length c44, .slice A49 l46.length c50] : List Value) ++ ([.bool (x91.list), .slice A99 x91.data.length c100, .slice A102 x91.items.length c103] : List Value) ++ ([.bool (x114.list), .slice A122 x114.data.length c123, .slice A125 x114.items.length c126] : List Value) ++ ([.bool (p65), .slice ((ob67).map fun k => ⟨k, 0, none⟩) l66.length c68, .slice ((ob74).map fun k => ⟨k, 0, none⟩) l71.length c75] : List Value)) ++ []) 89) :: (B115 ++ (B92 ++ ((ob74, blk (cs72 ++ r76) 89) :: ((ob67, blk ((u8s l66) ++ r69) 5) :: ((some b59, blk (u8s a0.bloom.toList) 27) :: B63)))))), [.bool true, .slice none 0 0, .slice (((some b136)).map fun k => ⟨k, 0, none⟩) ([(It.mk (p41) l42 l46), x91, x114, (It.mk (p65) l66 l71)] : List (It)).length 4], (ItRd.mk v141 v140 h139), rfl, rfl⟩
   ·exact (fun w m => m.pick [] 3 rfl rfl)
  ·skip
   refine CW.block (CW.mem (M' := ((none, blk ((u8s ([] : List (BitVec 8))) ++ []) 5) :: (some b60, blk [.bool true, .slice none 0 0, .slice none 0 0] 89) :: (some b59, blk (u8s a0.bloom.toList) 27) :: (some b36, blk [.bool (p41), .slice A43 l42.length c44, .slice A49 l46.length c50] 89) :: (some b12, blk [.bool false, .slice none 0 0, .slice none 0 0] 89) :: (B39 ++ N))) (fun w m => m.nil_ent _) (CW.mem (M' := ((none, blk ([] ++ []) 89) :: (none, blk ((u8s ([] : List (BitVec 8))) ++ []) 5) :: (some b60, blk [.bool true, .slice none 0 0, .slice none 0 0] 89) :: (some b59, blk (u8s a0.bloom.toList) 27) :: (some b36, blk [.bool (p41), .slice A43 l42.length c44, .slice A49 l46.length c50] 89) :: (some b12, blk [.bool false, .slice none 0 0, .slice none 0 0] 89) :: (B39 ++ N))) (fun w m => m.nil_ent _) (CW.loopJ (fun k L' M' => ∃ n144 : Nat, ∃ p146 : Bool, ∃ l147 : List (BitVec 8), ∃ l152 : List (It), ∃ B142 : List Ent, ∃ ob148 : Option Nat, ∃ c149 : Nat, ∃ r150 : List Value, ∃ cs153 : List Value, ∃ ob155 : Option Nat, ∃ c156 : Nat, ∃ r157 : List Value, (waybillref17_item.l1 a0 k n144 p146 l147 l152) = some q61 ∧ (∀ w, Mem w0 w B142 → Mem w0 w B39) ∧ (n144 ≤ 9223372036854775807) ∧ (OwnS ob148 l147.length c149 1 (u8s l147) r150) ∧ (Reps (ItRd (More w0 Φ B142)) cs153 l152) ∧ (OwnS ob155 l152.length c156 3 cs153 r157) ∧ L' = [(1, ptr (some b10) 0), (2, ptr (some b12) 0), (3, ptr (some b36) 0), (5, ptr (some b59) 0), (6, ptr (some b60) 0), (7, .int .i64 ((n144 : Nat) : Int))] ∧ M' = ((ob148, blk ((u8s l147) ++ r150) 5) :: (ob155, blk (cs153 ++ r157) 89) :: (some b60, blk [.bool (p146), sl ob148 0 l147.length c149, sl ob155 0 l152.length c156] 89) :: (some b59, blk (u8s a0.bloom.toList) 27) :: (some b36, blk [.bool (p41), .slice A43 l42.length c44, .slice A49 l46.length c50] 89) :: (some b12, blk [.bool false, .slice none 0 0, .slice none 0 0] 89) :: (B142 ++ N))) (k0 := (a0.logs.length - 0 + 2)) ⟨0, true, ([] : List (BitVec 8)), ([] : List (It)), B39, none, 0, [], [], none, 0, [], hq62, (fun w m => m), (by omega), OwnS.nil, Reps.nil, OwnS.nil, rfl, rfl⟩ ⟨rfl, rfl, rfl, rfl, rfl, rfl, trivial⟩ (fun w m => m.pick [1, 0, 2, 3, 4, 5] 6 rfl rfl) ?_)))
   clear hq62
   rintro k159 L162 M163 ⟨n144, p146, l147, l152, B142, ob148, c149, r150, cs153, ob155, c156, r157, hl160, hB143, b145, o151, h154, o158, e164, e165⟩
   rw [e164, e165]
   clear e164 e165 L162 M163
   rcases k159 with _ | k159
   ·rw [waybillref17_item.l1] at hl160; cases hl160
   rw [waybillref17_item.l1] at hl160
   have gq11 : ∀ w, More w0 Φ B142 w → More w0 Φ B39 w := fun w q => More.mono (fun w m => hB143 w (m)) q
   replace hH11 := hH11.mono gq11
   replace h8 := RcptRd.mono gq11 _ _ h8
   replace v4 := v4.mono gq11
   replace h6 := h6.mono (LogRd.mono gq11)
   replace v45 := v45.mono gq11
   replace v51 := v51.mono gq11
   replace h48 := h48.mono (ItRd.mono gq11)
   have m166 := o151.mx
   have m167 := o158.mx
   refine CW.seq (CW.seq (CW.region (OW.rv (RV.move rfl) rfl (OW.rv (RV.field rfl rfl rfl rfl) rfl (OW.slot (ptr (some b10) 292) rfl (OW.rv (RV.loadH rfl hH11 (fun w m => More.of hΦ 6 m rfl) rfl rfl (RcptC.C_logs (⟨a0.kind, (a0.rooted), a0.root, a0.status, a0.used, a0.bloom, .slice A2 a0.logs.length c3⟩ : RcptC))) rfl (OW.rv (RV.len rfl rfl) rfl (OW.rv (RV.lss rfl rfl) rfl (OW.slot (.bool (decide (n144 < a0.logs.length))) (congrArg Value.bool (decide_eq_decide.2 (by omega))) (OW.nil (QW.then_n ?_)))))))))))
   by_cases h168 : n144 < a0.logs.length
   ·replace hl160 := if_t hl160 h168
    refine CW.is_t rfl (decide_eq_true h168) (CW.skip (QW.then_n (CW.seq (CW.block (CW.seq (CW.region (OW.rv (RV.field rfl rfl rfl rfl) rfl (OW.slot (ptr (some b10) 292) rfl (OW.rv (RV.loadH rfl hH11 (fun w m => More.of hΦ 6 m rfl) rfl rfl (RcptC.C_logs (⟨a0.kind, (a0.rooted), a0.root, a0.status, a0.used, a0.bloom, .slice A2 a0.logs.length c3⟩ : RcptC))) rfl (OW.rv (RV.move rfl) rfl ?_))))))))))
    obtain ⟨x169, hx170, hl160⟩ := some_bind hl160
    have hl171 := lt_of_at hx170
    refine OW.rv (RV.idx_rs (n144) rfl rfl rfl rfl rfl (v4.isSome (by decide) hl171) (by omega)) rfl ?_
    obtain ⟨cs172, h173, h174⟩ := h6.get LogRd.len hx170
    have h184 := h173
    obtain ⟨A175, c176, cs178, A180, c181, e183, v177, h179, v182⟩ := LogRd.opn h173
    subst e183
    have m185 := v177.mx
    have m186 := v182.mx
    refine OW.rv (RV.loadAs rfl rfl rfl rfl (fun w m => v4.load (More.of hΦ 6 m rfl) h174) (LogC.C_length _)) rfl ?_
    obtain ⟨x188, hx187, hl160⟩ := some_bind hl160
    refine OW.callG Tryd.call91 rfl (waybillref17_logItem_does w0 (More w0 Φ B142) ((ob148, blk ((u8s l147) ++ r150) 5) :: (ob155, blk (cs153 ++ r157) 89) :: (some b60, blk [.bool (p146), sl ob148 0 l147.length c149, sl ob155 0 l152.length c156] 89) :: (some b59, blk (u8s a0.bloom.toList) 27) :: (some b36, blk [.bool (p41), .slice A43 l42.length c44, .slice A49 l46.length c50] 89) :: (some b12, blk [.bool false, .slice none 0 0, .slice none 0 0] 89) :: (B142 ++ N)) (fun w m => More.of hΦ 6 m rfl) (⟨x169.address, .slice A175 x169.topics.length c176, .slice A180 x169.data.length c181⟩ : LogC).C x169 x188 h184 hx187) rfl rfl ?_
    rintro L192 M193 ⟨B189, cs190, h191, e194, e195⟩
    rw [e194, e195]
    clear e194 e195 L192 M193
    refine OW.mem (M' := ((ob148, blk ((u8s l147) ++ r150) 5) :: (ob155, blk (cs153 ++ r157) 89) :: (some b60, blk [.bool (p146), sl ob148 0 l147.length c149, sl ob155 0 l152.length c156] 89) :: (some b59, blk (u8s a0.bloom.toList) 27) :: (some b36, blk [.bool (p41), .slice A43 l42.length c44, .slice A49 l46.length c50] 89) :: (some b12, blk [.bool false, .slice none 0 0, .slice none 0 0] 89) :: ((B189 ++ B142) ++ N))) (fun w m => by have h := Mem.sinkAt (A := B189) m 0 6 rfl rfl; exact h) ?_
    have gq12 : ∀ w, More w0 Φ (B189 ++ B142) w → More w0 Φ B142 w := fun w q => More.mono (fun w m => (m).appR) q
    replace hH11 := hH11.mono gq12
    replace h8 := RcptRd.mono gq12 _ _ h8
    replace v4 := v4.mono gq12
    replace h6 := h6.mono (LogRd.mono gq12)
    replace h184 := LogRd.mono gq12 _ _ h184
    replace v177 := v177.mono gq12
    replace h179 := h179.mono (Ar8Rd.mono gq12)
    replace v182 := v182.mono gq12
    replace h154 := h154.mono (ItRd.mono gq12)
    replace v45 := v45.mono gq12
    replace v51 := v51.mono gq12
    replace h48 := h48.mono (ItRd.mono gq12)
    replace h191 := ItRd.mono (Ψ := (More w0 Φ (B189 ++ B142))) (fun w q => More.flat q) _ _ h191
    have h205 := h191
    obtain ⟨A196, c197, A199, c200, cs202, e204, v198, v201, h203⟩ := ItRd.opn h191
    subst e204
    have m206 := v198.mx
    have m207 := v201.mx
    have m208 := v198.mx
    have m209 := v201.mx
    refine OW.alloc (l := [.bool false, .slice none 0 0, .slice none 0 0]) rfl rfl rfl (fun b210 => ?_)
    refine OW.sv (SV.storeW rfl rfl rfl (by intro u hu; simp at hu; rcases hu with rfl | rfl | rfl <;> rfl) rfl rfl rfl) ?_
    refine OW.nil (QW.then_n (CW.region (OW.rv (RV.field rfl rfl rfl rfl) rfl (OW.rv (RV.load rfl (List.Mem.tail _ (List.Mem.tail _ (List.Mem.tail _ (List.Mem.head _)))) rfl rfl rfl rfl) rfl (OW.rv (RV.loadW rfl (List.Mem.head _) rfl rfl rfl rfl rfl) rfl ?_)))))
    refine OW.ofN (NV.bsA rfl rfl (by intro x hx; simp at hx; subst hx; exact rfl) rfl rfl rfl (by decide) (by decide) rfl) rfl (fun b211 => ?_)
    have h214 : Reps (ItRd (More w0 Φ (B189 ++ B142))) (([.bool (x188.list), .slice A196 x188.data.length c197, .slice A199 x188.items.length c200] : List Value)) [x188] := Reps.one h205
    refine OW.mem (M' := (((some b211), blk ((([.bool (x188.list), .slice A196 x188.data.length c197, .slice A199 x188.items.length c200] : List Value)) ++ []) 89) :: (some b210, blk [.bool (x188.list), .slice A196 x188.data.length c197, .slice A199 x188.items.length c200] 89) :: (ob148, blk ((u8s l147) ++ r150) 5) :: (ob155, blk (cs153 ++ r157) 89) :: (some b60, blk [.bool (p146), sl ob148 0 l147.length c149, sl ob155 0 l152.length c156] 89) :: (some b59, blk (u8s a0.bloom.toList) 27) :: (some b36, blk [.bool (p41), .slice A43 l42.length c44, .slice A49 l46.length c50] 89) :: (some b12, blk [.bool false, .slice none 0 0, .slice none 0 0] 89) :: ((B189 ++ B142) ++ N))) (fun w m => m) ?_
    have o212 : OwnS (some b211) ([x188] : List (It)).length 1 3 (([.bool (x188.list), .slice A196 x188.data.length c197, .slice A199 x188.items.length c200] : List Value)) [] := ⟨by simp [ItRd], by simp [ItRd], (fun h => nomatch h), by simp⟩
    have mx_o212 := o212.mx
    refine OW.slot (sl (some b211) 0 ([x188] : List (It)).length 1) (rfl) (OW.rot3 ?_)
    obtain ⟨g215, hl160⟩ := some_if hl160
    have h220 := h154.app h214
    refine OW.appendOwn (s := 3) rfl rfl rfl rfl rfl rfl o158 (fun w m => m.rd0 (List.Mem.tail _ (List.Mem.head _)) (fun e => o212.nilc (by decide) e)) o212.n (h214.cell1 ItRd.one) (o212.zeroO (by decide)) (by decide) (by decide) (by first | omega | (simp only [i89, List.length_nil]; omega)) rfl rfl ((l152 ++ ([x188] : List (It))).length) (cs153 ++ (([.bool (x188.list), .slice A196 x188.data.length c197, .slice A199 x188.items.length c200] : List Value))) (List.length_append ..).symm rfl (fun ob216 r217 c218 o219 => ?_)
    have m221 := o219.mx
    refine OW.rv (RV.field rfl rfl rfl rfl) rfl (OW.rot4 (OW.sv (SV.store rfl rfl rfl rfl rfl (by simp)) (OW.cells [.bool (p146), sl ob148 0 l147.length c149, sl ob216 0 (l152 ++ ([x188] : List (It))).length c218] rfl (OW.nil (QW.block_n (QW.then_n (CW.region (OW.rv (RV.move rfl) rfl (OW.rv (RV.add rfl rfl (by omega)) rfl (OW.slot (.int .i64 (((n144 + 1) : Nat) : Int)) (by first | rfl | (congr 1) | (congr 1; omega)) (OW.rv (RV.assign rfl) rfl (OW.nil ?_))))))))))))
    exact QW.againJ (k' := k159) (Nat.lt_succ_self _) ⟨(n144 + 1), (p146), l147, (l152 ++ ([x188] : List (It))), (B189 ++ B142), ob148, c149, r150, (cs153 ++ (([.bool (x188.list), .slice A196 x188.data.length c197, .slice A199 x188.items.length c200] : List Value))), ob216, c218, r217, hl160, (fun w m => hB143 w ((m).appR)), (by omega), o151, h220, o219, rfl, rfl⟩ ⟨rfl, rfl, rfl, rfl, rfl, rfl, trivial⟩ (fun w m => m.pick [4, 1, 0, 5, 6, 7] 8 rfl rfl)
   ·replace hl160 := if_f hl160 h168
    refine CW.is_f rfl (decide_eq_false h168) (CW.exit (QW.then_x (QW.then_x (QW.block_xe ?_))))
    exact QW.join ⟨(p146), l147, l152, B142, ob148, c149, r150, cs153, ob155, c156, r157, (Option.some.inj hl160).symm, (fun w m => hB143 w (m)), o151, h154, o158, rfl, rfl⟩ ⟨rfl, rfl, rfl, rfl, rfl, trivial⟩ (fun w m => m.pick [0, 1, 2, 3, 4, 5] 6 rfl rfl)
 ·skip
  by_cases h222 : a0.rooted = true
  ·replace hq38 := if_t hq38 h222
   refine CW.is_t rfl (h222) (CW.seq (CW.region (OW.rv (RV.field rfl rfl rfl rfl) rfl (OW.slot (ptr (some b10) 2) rfl (OW.rv (RV.loadAH rfl hH11 (fun w m => More.of hΦ 2 m rfl) rfl rfl rfl (RcptC.C_root_all (⟨a0.kind, (a0.rooted), a0.root, a0.status, a0.used, a0.bloom, .slice A2 a0.logs.length c3⟩ : RcptC)) ((u8s_length _).trans Vector.length_toList)) rfl (OW.alloc (l := (u8s (Vector.replicate 32 0#8).toList)) rfl (by rw [Vector.toList_replicate, ← u8s_rep']; rfl) rfl (fun b223 => (OW.sv (SV.storeW rfl rfl rfl (u8s_one _) rfl ((u8s_length _).trans Vector.length_toList) ((u8s_length _).trans Vector.length_toList)) (OW.nil (QW.then_n (CW.region (OW.mem (M' := (some b36, blk [.bool (x14.list), .slice A22 x14.data.length c23, .slice A25 x14.items.length c26] 89) :: (some b12, blk [.bool false, .slice none 0 0, .slice none 0 0] 89) :: (((some b223, blk (u8s a0.root.toList) 24) :: (B15 ++ ((some b10, blk (⟨a0.kind, (a0.rooted), a0.root, a0.status, a0.used, a0.bloom, .slice A2 a0.logs.length c3⟩ : RcptC).C 30) :: []))) ++ N)) (fun w m => m.pick [1, 2, 0] 3 rfl rfl) ?_))))))))))))
   have gq13 : ∀ w, More w0 Φ ((some b223, blk (u8s a0.root.toList) 24) :: (B15 ++ ((some b10, blk (⟨a0.kind, (a0.rooted), a0.root, a0.status, a0.used, a0.bloom, .slice A2 a0.logs.length c3⟩ : RcptC).C 30) :: []))) w → More w0 Φ (B15 ++ ((some b10, blk (⟨a0.kind, (a0.rooted), a0.root, a0.status, a0.used, a0.bloom, .slice A2 a0.logs.length c3⟩ : RcptC).C 30) :: [])) w := fun w q => More.mono (fun w m => (m).tail) q
   replace h8 := RcptRd.mono gq13 _ _ h8
   replace v4 := v4.mono gq13
   replace h6 := h6.mono (LogRd.mono gq13)
   replace hH11 := hH11.mono gq13
   replace h31 := ItRd.mono gq13 _ _ h31
   replace v24 := v24.mono gq13
   replace v27 := v27.mono gq13
   replace h29 := h29.mono (ItRd.mono gq13)
   have v224 : View (More w0 Φ ((some b223, blk (u8s a0.root.toList) 24) :: (B15 ++ ((some b10, blk (⟨a0.kind, (a0.rooted), a0.root, a0.status, a0.used, a0.bloom, .slice A2 a0.logs.length c3⟩ : RcptC).C 30) :: [])))) (some ⟨b223, 0, none⟩) a0.root.toList.length 32 1 (u8s a0.root.toList) := View.arr (w0 := w0) (te := 24) (fun w q => q.2.sublist (List.singleton_sublist.2 (List.mem_cons_self ..))) (by decide)
   refine OW.rv (RV.arr_all rfl rfl rfl) rfl ?_
   refine OW.slot (.slice (some ⟨b223, 0, none⟩) a0.root.toList.length 32) (by rw [Vector.length_toList]; try rfl) ?_
   have v225 := v224
   have m226 := v225.mx
   obtain ⟨x228, hx227, hq38⟩ := some_bind hq38
   refine OW.callG Tryd.call52 rfl (waybillref17_text_does w0 (More w0 Φ ((some b223, blk (u8s a0.root.toList) 24) :: (B15 ++ ((some b10, blk (⟨a0.kind, (a0.rooted), a0.root, a0.status, a0.used, a0.bloom, .slice A2 a0.logs.length c3⟩ : RcptC).C 30) :: [])))) ((some b36, blk [.bool (x14.list), .slice A22 x14.data.length c23, .slice A25 x14.items.length c26] 89) :: (some b12, blk [.bool false, .slice none 0 0, .slice none 0 0] 89) :: (((some b223, blk (u8s a0.root.toList) 24) :: (B15 ++ ((some b10, blk (⟨a0.kind, (a0.rooted), a0.root, a0.status, a0.used, a0.bloom, .slice A2 a0.logs.length c3⟩ : RcptC).C 30) :: []))) ++ N)) (fun w m => More.of hΦ 2 m rfl) (some ⟨b223, 0, none⟩) 32 a0.root.toList x228 v225 hx227) rfl rfl ?_
   rintro L232 M233 ⟨B229, cs230, h231, e234, e235⟩
   rw [e234, e235]
   clear e234 e235 L232 M233
   refine OW.mem (M' := ((some b36, blk [.bool (x14.list), .slice A22 x14.data.length c23, .slice A25 x14.items.length c26] 89) :: (some b12, blk [.bool false, .slice none 0 0, .slice none 0 0] 89) :: ((B229 ++ ((some b223, blk (u8s a0.root.toList) 24) :: (B15 ++ ((some b10, blk (⟨a0.kind, (a0.rooted), a0.root, a0.status, a0.used, a0.bloom, .slice A2 a0.logs.length c3⟩ : RcptC).C 30) :: [])))) ++ N))) (fun w m => by have h := Mem.sinkAt (A := B229) m 0 2 rfl rfl; exact h) ?_
   have gq14 : ∀ w, More w0 Φ (B229 ++ ((some b223, blk (u8s a0.root.toList) 24) :: (B15 ++ ((some b10, blk (⟨a0.kind, (a0.rooted), a0.root, a0.status, a0.used, a0.bloom, .slice A2 a0.logs.length c3⟩ : RcptC).C 30) :: [])))) w → More w0 Φ ((some b223, blk (u8s a0.root.toList) 24) :: (B15 ++ ((some b10, blk (⟨a0.kind, (a0.rooted), a0.root, a0.status, a0.used, a0.bloom, .slice A2 a0.logs.length c3⟩ : RcptC).C 30) :: []))) w := fun w q => More.mono (fun w m => (m).appR) q
   replace h8 := RcptRd.mono gq14 _ _ h8
   replace v4 := v4.mono gq14
   replace h6 := h6.mono (LogRd.mono gq14)
   replace hH11 := hH11.mono gq14
   replace h31 := ItRd.mono gq14 _ _ h31
   replace v24 := v24.mono gq14
   replace v27 := v27.mono gq14
   replace h29 := h29.mono (ItRd.mono gq14)
   replace v225 := v225.mono gq14
   replace h231 := ItRd.mono (Ψ := (More w0 Φ (B229 ++ ((some b223, blk (u8s a0.root.toList) 24) :: (B15 ++ ((some b10, blk (⟨a0.kind, (a0.rooted), a0.root, a0.status, a0.used, a0.bloom, .slice A2 a0.logs.length c3⟩ : RcptC).C 30) :: [])))))) (fun w q => More.flat q) _ _ h231
   have h245 := h231
   obtain ⟨A236, c237, A239, c240, cs242, e244, v238, v241, h243⟩ := ItRd.opn h231
   subst e244
   have m246 := v238.mx
   have m247 := v241.mx
   have m248 := v238.mx
   have m249 := v241.mx
   refine OW.sv (SV.storeW rfl rfl rfl (by intro u hu; simp at hu; rcases hu with rfl | rfl | rfl <;> rfl) rfl rfl rfl) ?_
   refine OW.nil ?_
   exact QW.join ⟨(x228.list), x228.data, x228.items, (B229 ++ ((some b223, blk (u8s a0.root.toList) 24) :: (B15 ++ ((some b10, blk (⟨a0.kind, (a0.rooted), a0.root, a0.status, a0.used, a0.bloom, .slice A2 a0.logs.length c3⟩ : RcptC).C 30) :: [])))), A236, c237, cs242, A239, c240, (Option.some.inj hq38).symm, (fun w m => ((m).appR).tail), v238, h243, v241, rfl, rfl⟩ ⟨rfl, rfl, rfl, trivial⟩ (fun w m => m.pick [0, 1] 2 rfl rfl)
  ·replace hq38 := if_f hq38 h222
   refine CW.is_f rfl (Bool.eq_false_iff.2 h222) (CW.skip ?_)
   exact QW.join ⟨(x14.list), x14.data, x14.items, (B15 ++ ((some b10, blk (⟨a0.kind, (a0.rooted), a0.root, a0.status, a0.used, a0.bloom, .slice A2 a0.logs.length c3⟩ : RcptC).C 30) :: [])), A22, c23, cs28, A25, c26, (Option.some.inj hq38).symm, (fun w m => m), v24, h29, v27, rfl, rfl⟩ ⟨rfl, rfl, rfl, trivial⟩ (fun w m => m.pick [0, 1] 2 rfl rfl)
end Go.Fw.Tryd
