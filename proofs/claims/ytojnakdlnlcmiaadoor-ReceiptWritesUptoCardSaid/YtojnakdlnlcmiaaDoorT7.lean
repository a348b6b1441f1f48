/- Part of a proof: rules that its law uses. -/
import Derived.Test.YtojnakdlnlcmiaaDoorT6
namespace Go.Fw.Tryd
open Go Go.Proofs Go.Fw
set_option maxRecDepth 100000
set_option linter.unusedVariables false
set_option linter.unusedSimpArgs false
set_option maxHeartbeats 1000000
theorem waybillref17_Encode_does (w0 : World) (Φ : Ctx) (N : List Ent) (hΦ : ∀ w, Mem w0 w N → Φ w) (cs0_ : List Value) (a0 : Rcpt) (res0 : List (BitVec 8)) (res1 : Nat) (ha0 : RcptRd Φ cs0_ a0) (hTn : ∀ i, i < 25 → w0.cell? ⟨4, i, none⟩ = some (.int .i64 (turnsL.getD i 0))) (hRn : ∀ i, i < 24 → w0.cell? ⟨3, i, none⟩ = some (U64 (g64 roundsL i))) (hf : waybillref17_Encode a0 = some (res0, res1)) : DoesG Tryd.prog 34 [.agg cs0_.toArray] w0 [] N (fun v G => ∃ B : List Ent, ∃ or0 : Option Nat, ∃ kr0 : Nat, ∃ rr0 : List Value, (OwnS or0 res0.length kr0 1 (u8s res0) rr0) ∧ (res1 ≤ 9223372036854775807) ∧ v = .tuple #[sl or0 0 res0.length kr0, .int .i64 ((res1 : Nat) : Int)] ∧ G = (or0, blk ((u8s res0) ++ rr0) 5) :: B) := by
 unfold waybillref17_Encode at hf
 replace ha0 := RcptRd.mono (Ψ := More w0 Φ []) (fun w q => q.1) _ _ ha0
 have h8 := ha0
 obtain ⟨A2, c3, cs5, e7, b1, v4, h6⟩ := RcptRd.opn ha0
 subst e7
 have m9 := v4.mx
 refine DoesG.enter Tryd.func34 rfl Tryd.ntmps34 rfl (M := (([] ++ N))) rfl (CW.seq (CW.region (OW.boxA rfl rfl (fun b10 => (OW.rv (RV.assign rfl) rfl (OW.rv (RV.assign rfl) rfl (OW.nil (QW.then_n (CW.seq (CW.region (OW.rv (RV.loadW rfl (List.Mem.head _) rfl rfl rfl rfl (RcptC.C_length _)) rfl ?_)))))))))))
 obtain ⟨x12, hx11, hf⟩ := some_bind hf
 refine OW.callG Tryd.call37 rfl (waybillref17_Check_does w0 (More w0 Φ []) ((some b10, blk (⟨a0.kind, (a0.rooted), a0.root, a0.status, a0.used, a0.bloom, .slice A2 a0.logs.length c3⟩ : RcptC).C 30) :: ([] ++ N)) (fun w m => More.of hΦ 1 m rfl) (⟨a0.kind, (a0.rooted), a0.root, a0.status, a0.used, a0.bloom, .slice A2 a0.logs.length c3⟩ : RcptC).C a0 x12 h8 hTn hRn hx11) rfl rfl ?_
 rintro _ G14 ⟨b13, rfl⟩
 refine OW.mem (M' := ((some b10, blk (⟨a0.kind, (a0.rooted), a0.root, a0.status, a0.used, a0.bloom, .slice A2 a0.logs.length c3⟩ : RcptC).C 30) :: ([] ++ N))) (fun w m => m.appR) (OW.rv (RV.assign rfl) rfl (OW.nil (QW.then_n (CW.seq (CW.seq (CW.region (OW.rv (RV.move rfl) rfl (OW.rv (RV.neq rfl rfl) rfl (OW.slot (.bool (!decide (x12 = 0))) (congrArg (fun b => Value.bool (!b)) (decide_eq_decide.2 (by omega))) (OW.nil (QW.then_n ?_)))))))))))
 by_cases h16 : x12 = 0
 ·replace hf := if_t hf h16
  refine CW.is_f rfl (congrArg (fun b => !b) (decide_eq_true h16)) (CW.skip (QW.then_n (CW.seq (CW.region (OW.rv (RV.loadW rfl (List.Mem.head _) rfl rfl rfl rfl (RcptC.C_length _)) rfl ?_)))))
  obtain ⟨x18, hx17, hf⟩ := some_bind hf
  refine OW.callG Tryd.call65 rfl (waybillref17_item_does w0 (More w0 Φ []) ((some b10, blk (⟨a0.kind, (a0.rooted), a0.root, a0.status, a0.used, a0.bloom, .slice A2 a0.logs.length c3⟩ : RcptC).C 30) :: ([] ++ N)) (fun w m => More.of hΦ 1 m rfl) (⟨a0.kind, (a0.rooted), a0.root, a0.status, a0.used, a0.bloom, .slice A2 a0.logs.length c3⟩ : RcptC).C a0 x18 h8 hx17) rfl rfl ?_
  rintro L22 M23 ⟨B19, cs20, h21, e24, e25⟩
  rw [e24, e25]
  clear e24 e25 L22 M23
  refine OW.mem (M' := ((some b10, blk (⟨a0.kind, (a0.rooted), a0.root, a0.status, a0.used, a0.bloom, .slice A2 a0.logs.length c3⟩ : RcptC).C 30) :: ((B19 ++ []) ++ N))) (fun w m => by have h := Mem.sinkAt (A := B19) m 0 1 rfl rfl; exact h) ?_
  have gq1 : ∀ w, More w0 Φ (B19 ++ []) w → More w0 Φ [] w := fun w q => More.mono (fun w m => (m).appR) q
  replace h8 := RcptRd.mono gq1 _ _ h8
  replace v4 := v4.mono gq1
  replace h6 := h6.mono (LogRd.mono gq1)
  replace h21 := ItRd.mono (Ψ := (More w0 Φ (B19 ++ []))) (fun w q => More.flat q) _ _ h21
  have h35 := h21
  obtain ⟨A26, c27, A29, c30, cs32, e34, v28, v31, h33⟩ := ItRd.opn h21
  subst e34
  have m36 := v28.mx
  have m37 := v31.mx
  have m38 := v28.mx
  have m39 := v31.mx
  obtain ⟨⟨x41, x42⟩, hx40, hf⟩ := some_bind hf
  try dsimp only at hf
  refine OW.callG Tryd.call64 rfl (waybillref07_Encode_does w0 (More w0 Φ (B19 ++ [])) ((some b10, blk (⟨a0.kind, (a0.rooted), a0.root, a0.status, a0.used, a0.bloom, .slice A2 a0.logs.length c3⟩ : RcptC).C 30) :: ((B19 ++ []) ++ N)) (fun w m => More.of hΦ 1 m rfl) [.bool (x18.list), .slice A26 x18.data.length c27, .slice A29 x18.items.length c30] x18 x41 x42 h35 hx40) rfl rfl ?_
  rintro L49 M50 ⟨B43, ob44, c45, r46, o47, b48, e51, e52⟩
  rw [e51, e52]
  clear e51 e52 L49 M50
  refine OW.mem (M' := ((ob44, blk ((u8s x41) ++ r46) 5) :: (some b10, blk (⟨a0.kind, (a0.rooted), a0.root, a0.status, a0.used, a0.bloom, .slice A2 a0.logs.length c3⟩ : RcptC).C 30) :: ((B43 ++ (B19 ++ [])) ++ N))) (fun w m => by have h := Mem.sinkAt (A := B43) m 1 1 rfl rfl; exact h) ?_
  have gq2 : ∀ w, More w0 Φ (B43 ++ (B19 ++ [])) w → More w0 Φ (B19 ++ []) w := fun w q => More.mono (fun w m => (m).appR) q
  replace h8 := RcptRd.mono gq2 _ _ h8
  replace v4 := v4.mono gq2
  replace h6 := h6.mono (LogRd.mono gq2)
  replace h35 := ItRd.mono gq2 _ _ h35
  replace v28 := v28.mono gq2
  replace v31 := v31.mono gq2
  replace h33 := h33.mono (ItRd.mono gq2)
  have m53 := o47.mx
  refine OW.rv (RV.move rfl) rfl (OW.rv (RV.extract rfl rfl) rfl (OW.slot (sl ob44 0 x41.length c45) (rfl) (OW.rv (RV.extract rfl rfl) rfl (OW.slot (.int .i64 ((x42 : Nat) : Int)) (rfl) (OW.rv (RV.assign rfl) rfl (OW.rv (RV.assign rfl) rfl (OW.nil (QW.then_n (CW.seq (CW.seq ?_))))))))))
  obtain ⟨q54, hq55, hf⟩ := some_bind hf
  refine CW.cutJ (fun L' M' => ∃ p56 : Bool, q54 = p56 ∧ L' = [(1, ptr (some b10) 0), (5, sl ob44 0 x41.length c45), (31, .bool (p56))] ∧ M' = ((ob44, blk ((u8s x41) ++ r46) 5) :: (some b10, blk (⟨a0.kind, (a0.rooted), a0.root, a0.status, a0.used, a0.bloom, .slice A2 a0.logs.length c3⟩ : RcptC).C 30) :: ((B43 ++ (B19 ++ [])) ++ N))) ?_ ?_
  ·rintro L58 M59 ⟨p56, e57, e60, e61⟩
   rw [e60, e61]
   clear e60 e61 L58 M59
   clear hq55
   rw [e57] at hf
   clear e57
   try dsimp only at hf
   have m62 := o47.mx
   refine QW.then_n ?_
   by_cases h63 : p56 = true
   ·replace hf := if_t hf h63
    refine CW.is_t rfl (h63) (CW.seq (CW.region (OW.rv (RV.assign rfl) rfl (OW.rv (RV.assign rfl) rfl (OW.nil (QW.then_n (CW.ret (QW.then_r (QW.mem (M' := ((none, blk ((u8s ([] : List (BitVec 8))) ++ []) 5) :: (ob44, blk ((u8s x41) ++ r46) 5) :: (some b10, blk (⟨a0.kind, (a0.rooted), a0.root, a0.status, a0.used, a0.bloom, .slice A2 a0.logs.length c3⟩ : RcptC).C 30) :: ((B43 ++ (B19 ++ [])) ++ N))) (fun w m => m.nil_ent _) ?_)))))))))
    have er0 := Option.some.inj hf
    obtain ⟨e0, er1⟩ := Prod.mk.inj er0
    clear er0
    subst e0
    subst er1
    refine QW.retG (rs := [.tmp 2, .tmp 3]) ([sl none 0 ([] : List (BitVec 8)).length 0, .int .i64 (2 : Int)]) ((none, blk ((u8s ([] : List (BitVec 8))) ++ []) 5) :: (B43 ++ (B19 ++ []))) rfl ?_ rfl ?_ ?_ _ (.inl rfl)
    ·exact ⟨rfl, rfl, trivial⟩
    ·exact ⟨(B43 ++ (B19 ++ [])), none, 0, [], OwnS.nil, (by omega), rfl, rfl⟩
    ·exact (fun w m => m.pick [0] 3 rfl rfl)
   ·replace hf := if_f hf h63
    refine CW.is_f rfl (Bool.eq_false_iff.2 h63) (CW.skip (QW.then_n (CW.seq (CW.region (OW.rv (RV.assign rfl) rfl (OW.nil (QW.then_n (CW.seq (CW.seq (CW.region (OW.rv (RV.field rfl rfl rfl rfl) rfl (OW.slot (ptr (some b10) 0) rfl (OW.rv (RV.load rfl (List.Mem.tail _ (List.Mem.head _)) rfl rfl rfl (RcptC.C_kind (⟨a0.kind, (a0.rooted), a0.root, a0.status, a0.used, a0.bloom, .slice A2 a0.logs.length c3⟩ : RcptC))) rfl (OW.rv (RV.gtr rfl rfl) rfl (OW.nil (QW.then_n ?_))))))))))))))))
    obtain ⟨q64, hq65, hf⟩ := some_bind hf
    refine CW.cutJ (fun L' M' => ∃ l66 : List (BitVec 8), ∃ ob67 : Option Nat, ∃ c68 : Nat, ∃ r69 : List Value, q64 = l66 ∧ (OwnS ob67 l66.length c68 1 (u8s l66) r69) ∧ L' = [(5, sl ob44 0 x41.length c45), (7, sl ob67 0 l66.length c68)] ∧ M' = ((ob67, blk ((u8s l66) ++ r69) 5) :: (ob44, blk ((u8s x41) ++ r46) 5) :: ((B43 ++ (B19 ++ [])) ++ N))) ?_ ?_
    ·rintro L72 M73 ⟨l66, ob67, c68, r69, e71, o70, e74, e75⟩
     rw [e74, e75]
     clear e74 e75 L72 M73
     clear hq65
     rw [e71] at hf
     clear e71
     try dsimp only at hf
     have m76 := o70.mx
     have m77 := o47.mx
     refine QW.then_n (CW.seq (CW.region (OW.rv (RV.move rfl) rfl (OW.rv (RV.move rfl) rfl ?_))))
     obtain ⟨g78, hf⟩ := some_if hf
     refine OW.appendOwn (s := 1) rfl rfl rfl rfl rfl rfl o70 (fun w m => m.rd0 (List.Mem.tail _ (List.Mem.head _)) (fun e => o47.nilc (by decide) e)) o47.n (u8s_one _) (o47.zeroO (by decide)) (by decide) (by decide) (by first | omega | (simp only [i5, List.length_nil]; omega)) rfl rfl ((l66 ++ x41).length) (u8s (l66 ++ x41)) (List.length_append ..).symm (u8s_app _ _) (fun ob79 r80 c81 o82 => ?_)
     have m83 := o82.mx
     refine OW.rv (RV.assign rfl) rfl (OW.nil (QW.then_n (CW.seq (CW.region (OW.rv (RV.move rfl) rfl (OW.rv (RV.assign rfl) rfl (OW.rv (RV.assign rfl) rfl (OW.nil (QW.then_n (CW.ret ?_))))))))))
     have er0 := Option.some.inj hf
     obtain ⟨e0, er1⟩ := Prod.mk.inj er0
     clear er0
     subst e0
     subst er1
     refine QW.retG (rs := [.tmp 2, .tmp 3]) ([sl ob79 0 (l66 ++ x41).length c81, .int .i64 (0 : Int)]) ((ob79, blk ((u8s (l66 ++ x41)) ++ r80) 5) :: (B43 ++ (B19 ++ []))) rfl ?_ rfl ?_ ?_ _ (.inl rfl)
     ·exact ⟨rfl, rfl, trivial⟩
     ·exact ⟨(B43 ++ (B19 ++ [])), ob79, c81, r80, o82, (by omega), rfl, rfl⟩
     ·exact (fun w m => m.pick [0] 2 rfl rfl)
    ·skip
     by_cases h84 : (0 : Int) < a0.kind
     ·replace hq65 := if_t hq65 h84
      refine CW.is_t rfl (decide_eq_true h84) (CW.region (OW.rv (RV.move rfl) rfl (OW.rv (RV.field rfl rfl rfl rfl) rfl (OW.slot (ptr (some b10) 0) rfl (OW.rv (RV.load rfl (List.Mem.tail _ (List.Mem.head _)) rfl rfl rfl (RcptC.C_kind (⟨a0.kind, (a0.rooted), a0.root, a0.status, a0.used, a0.bloom, .slice A2 a0.logs.length c3⟩ : RcptC))) rfl (OW.rv (RV.conv_i8 rfl rfl rfl) rfl (OW.ofN (NV.bs1 rfl rfl rfl rfl rfl rfl) rfl (fun b85 => (OW.mem (M' := (((some b85), blk ((u8s ([(BitVec.ofInt 8 a0.kind)] : List (BitVec 8))) ++ []) 5) :: (ob44, blk ((u8s x41) ++ r46) 5) :: (some b10, blk (⟨a0.kind, (a0.rooted), a0.root, a0.status, a0.used, a0.bloom, .slice A2 a0.logs.length c3⟩ : RcptC).C 30) :: ((B43 ++ (B19 ++ [])) ++ N))) (fun w m => by first | exact m | simpa [u8s] using m) ?_)))))))))
      have o86 : OwnS (some b85) ([(BitVec.ofInt 8 a0.kind)] : List (BitVec 8)).length 1 1 (u8s ([(BitVec.ofInt 8 a0.kind)] : List (BitVec 8))) [] := ⟨by simp [u8s], by simp [u8s], (fun h => nomatch h), by simp⟩
      have mx_o86 := o86.mx
      refine OW.slot (sl (some b85) 0 ([(BitVec.ofInt 8 a0.kind)] : List (BitVec 8)).length 1) (rfl) (OW.mem (M' := ((none, blk ((u8s ([] : List (BitVec 8))) ++ []) 5) :: ((some b85), blk ((u8s ([(BitVec.ofInt 8 a0.kind)] : List (BitVec 8))) ++ []) 5) :: (ob44, blk ((u8s x41) ++ r46) 5) :: (some b10, blk (⟨a0.kind, (a0.rooted), a0.root, a0.status, a0.used, a0.bloom, .slice A2 a0.logs.length c3⟩ : RcptC).C 30) :: ((B43 ++ (B19 ++ [])) ++ N))) (fun w m => m.nil_ent _) (OW.appendOwn (s := 1) rfl rfl rfl rfl rfl rfl OwnS.nil (fun w m => m.rd0 (List.Mem.tail _ (List.Mem.head _)) (fun e => o86.nilc (by decide) e)) o86.n (u8s_one _) (o86.zeroO (by decide)) (by decide) (by decide) (by first | omega | (simp only [i5, List.length_nil]; omega)) rfl rfl (([(BitVec.ofInt 8 a0.kind)] : List (BitVec 8)).length) (u8s ([(BitVec.ofInt 8 a0.kind)] : List (BitVec 8))) (Nat.zero_add _) rfl (fun ob87 r88 c89 o90 => ?_)))
      have m91 := o90.mx
      refine OW.rv (RV.assign rfl) rfl (OW.nil ?_)
      exact QW.join ⟨([(BitVec.ofInt 8 a0.kind)] : List (BitVec 8)), ob87, c89, r88, (Option.some.inj hq65).symm, o90, rfl, rfl⟩ ⟨rfl, rfl, trivial⟩ (fun w m => m.pick [0, 2] 4 rfl rfl)
     ·replace hq65 := if_f hq65 h84
      refine CW.is_f rfl (decide_eq_false h84) (CW.skip (QW.mem (M' := ((none, blk ((u8s ([] : List (BitVec 8))) ++ []) 5) :: (ob44, blk ((u8s x41) ++ r46) 5) :: (some b10, blk (⟨a0.kind, (a0.rooted), a0.root, a0.status, a0.used, a0.bloom, .slice A2 a0.logs.length c3⟩ : RcptC).C 30) :: ((B43 ++ (B19 ++ [])) ++ N))) (fun w m => m.nil_ent _) ?_))
      exact QW.join ⟨([] : List (BitVec 8)), none, 0, [], (Option.some.inj hq65).symm, OwnS.nil, rfl, rfl⟩ ⟨rfl, rfl, trivial⟩ (fun w m => m.pick [0, 1] 3 rfl rfl)
  ·skip
   refine CW.region (OW.rv (RV.move rfl) rfl (OW.rv (RV.neq rfl rfl) rfl (OW.slot (.bool (!decide (x42 = 0))) (congrArg (fun b => Value.bool (!b)) (decide_eq_decide.2 (by omega))) (OW.rv (RV.move rfl) rfl ?_))))
   by_cases h92 : x42 = 0
   ·replace hq55 := if_t hq55 h92
    refine OW.slot (.bool false) (congrArg Value.bool (congrArg (fun b => !b) (decide_eq_true h92))) (OW.want rfl (OW.rv (RV.field rfl rfl rfl rfl) rfl (OW.slot (ptr (some b10) 0) rfl (OW.want rfl (OW.rv (RV.load rfl (List.Mem.tail _ (List.Mem.head _)) rfl rfl rfl (RcptC.C_kind (⟨a0.kind, (a0.rooted), a0.root, a0.status, a0.used, a0.bloom, .slice A2 a0.logs.length c3⟩ : RcptC))) rfl (OW.want rfl (OW.rv (RV.gtr rfl rfl) rfl (OW.want rfl (OW.rv (RV.move rfl) rfl ?_)))))))))
    by_cases h93 : (0 : Int) < a0.kind
    ·replace hq55 := if_t hq55 h93
     refine OW.slot (.bool true) (congrArg Value.bool (decide_eq_true h93)) (OW.want rfl (OW.rv (RV.move rfl) rfl (OW.want rfl (OW.rv (RV.len rfl rfl) rfl (OW.want rfl (OW.rv (RV.add rfl rfl (by omega)) rfl (OW.slot (.int .i64 (((x41.length + 1) : Nat) : Int)) (by first | rfl | (congr 1) | (congr 1; omega)) (OW.want rfl (OW.rv (RV.gtr rfl rfl) rfl (OW.slot (.bool (decide (16777216 < (x41.length + 1)))) (congrArg Value.bool (decide_eq_decide.2 (by omega))) (OW.want rfl (OW.rv (RV.pick_t rfl rfl rfl) rfl (OW.rv (RV.pick_f rfl rfl rfl) rfl (OW.nil ?_))))))))))))))
     exact QW.join ⟨(decide (16777216 < (x41.length + 1))), (Option.some.inj hq55).symm, rfl, rfl⟩ ⟨rfl, rfl, rfl, trivial⟩ (fun w m => m.pick [0, 1] 2 rfl rfl)
    ·replace hq55 := if_f hq55 h93
     refine OW.slot (.bool false) (congrArg Value.bool (decide_eq_false h93)) (OW.skip rfl rfl rfl (OW.skip rfl rfl rfl (OW.skip rfl rfl rfl (OW.skip rfl rfl rfl (OW.want rfl (OW.rv (RV.pick_f rfl rfl rfl) rfl (OW.rv (RV.pick_f rfl rfl rfl) rfl (OW.nil ?_))))))))
     exact QW.join ⟨false, (Option.some.inj hq55).symm, rfl, rfl⟩ ⟨rfl, rfl, rfl, trivial⟩ (fun w m => m.pick [0, 1] 2 rfl rfl)
   ·replace hq55 := if_f hq55 h92
    refine OW.slot (.bool true) (congrArg Value.bool (congrArg (fun b => !b) (decide_eq_false h92))) (OW.skip rfl rfl rfl (OW.skip rfl rfl rfl (OW.skip rfl rfl rfl (OW.skip rfl rfl rfl (OW.skip rfl rfl rfl (OW.skip rfl rfl rfl (OW.skip rfl rfl rfl (OW.skip rfl rfl rfl (OW.skip rfl rfl rfl (OW.rv (RV.pick_t rfl rfl rfl) rfl (OW.nil ?_)))))))))))
    exact QW.join ⟨true, (Option.some.inj hq55).symm, rfl, rfl⟩ ⟨rfl, rfl, rfl, trivial⟩ (fun w m => m.pick [0, 1] 2 rfl rfl)
 ·replace hf := if_f hf h16
  refine CW.is_t rfl (congrArg (fun b => !b) (decide_eq_false h16)) (CW.seq (CW.region (OW.rv (RV.move rfl) rfl (OW.rv (RV.assign rfl) rfl (OW.rv (RV.assign rfl) rfl (OW.nil (QW.then_n (CW.ret (QW.then_r (QW.mem (M' := ((none, blk ((u8s ([] : List (BitVec 8))) ++ []) 5) :: (some b10, blk (⟨a0.kind, (a0.rooted), a0.root, a0.status, a0.used, a0.bloom, .slice A2 a0.logs.length c3⟩ : RcptC).C 30) :: ([] ++ N))) (fun w m => m.nil_ent _) ?_))))))))))
  have er0 := Option.some.inj hf
  obtain ⟨e0, er1⟩ := Prod.mk.inj er0
  clear er0
  subst e0
  subst er1
  refine QW.retG (rs := [.tmp 2, .tmp 3]) ([sl none 0 ([] : List (BitVec 8)).length 0, .int .i64 ((x12 : Nat) : Int)]) ((none, blk ((u8s ([] : List (BitVec 8))) ++ []) 5) :: []) rfl ?_ rfl ?_ ?_ _ (.inl rfl)
  ·exact ⟨rfl, rfl, trivial⟩
  ·exact ⟨[], none, 0, [], OwnS.nil, (by omega), rfl, rfl⟩
  ·exact (fun w m => m.pick [0] 2 rfl rfl)
theorem waybilllaw17_still_does (w0 : World) (Φ : Ctx) (N : List Ent) (hΦ : ∀ w, Mem w0 w N → Φ w) (A0_ : Option Addr) (c0_ : Nat) (a0 : List (BitVec 8)) (A1_ : Option Addr) (c1_ : Nat) (a1 : List (BitVec 8)) (res0 : Bool) (va0 : View Φ A0_ (a0 ++ List.replicate 70 195#8).length c0_ 1 (u8s (a0 ++ List.replicate 70 195#8))) (va1 : View Φ A1_ a1.length c1_ 1 (u8s a1)) (hf : waybilllaw17_still a0 a1 = some res0) : DoesG Tryd.prog 41 [.slice A0_ a0.length c0_, .slice A1_ a1.length c1_] w0 [] N (fun v G => v = .bool res0) := by
 unfold waybilllaw17_still at hf
 replace va0 := va0.mono (Ψ := More w0 Φ []) (fun w q => q.1)
 replace va1 := va1.mono (Ψ := More w0 Φ []) (fun w q => q.1)
 have hle := va0.mx
 have hle2 : (a0 ++ List.replicate 70 195#8).length = a0.length + 70 := by rw [List.length_append, List.length_replicate]
 have v1 : View (More w0 Φ []) A0_ a0.length c0_ 1 (u8s a0) := MRoom.view va0
 have m2 := v1.mx
 have m3 := va1.mx
 refine DoesG.enter Tryd.func41 rfl Tryd.ntmps41 rfl (M := (([] ++ N))) rfl (CW.seq (CW.region (OW.rv (RV.assign rfl) rfl (OW.nil (QW.then_n (CW.seq (CW.seq (CW.region (OW.rv (RV.move rfl) rfl (OW.rv (RV.len rfl rfl) rfl (OW.rv (RV.move rfl) rfl (OW.rv (RV.len rfl rfl) rfl (OW.rv (RV.neq rfl rfl) rfl (OW.slot (.bool (!decide (a0.length = a1.length))) (congrArg (fun b => Value.bool (!b)) (decide_eq_decide.2 (by omega))) (OW.nil (QW.then_n ?_))))))))))))))))
 by_cases h4 : a0.length = a1.length
 ·replace hf := if_t hf h4
  refine CW.is_f rfl (congrArg (fun b => !b) (decide_eq_true h4)) (CW.skip (QW.then_n (CW.seq (CW.region (OW.rv (RV.move rfl) rfl (OW.rv (RV.move rfl) rfl (OW.rv (RV.len rfl rfl) rfl (OW.rv (RV.add rfl rfl (by omega)) rfl (OW.slot (.int .i64 (((a1.length + 70) : Nat) : Int)) (by first | rfl | (congr 1) | (congr 1; omega)) ?_)))))))))
  obtain ⟨g6, hf⟩ := some_if hf
  have hle := va0.le
  have hlen_ : (a0 ++ List.replicate 70 195#8).length = (a0 ++ List.replicate 70 195#8).length := rfl
  refine OW.rv (RV.cut_hi ((a1.length + 70)) rfl rfl (by omega) rfl rfl (by omega)) rfl (OW.slot (.slice A0_ ((a0 ++ List.replicate 70 195#8).take (a1.length + 70)).length c0_) (by rw [show (((a0 ++ List.replicate 70 195#8).take (a1.length + 70))).length = (a1.length + 70) from List.length_take.trans (Nat.min_eq_left (by omega))]) ?_)
  have v5 : View (More w0 Φ []) A0_ ((a0 ++ List.replicate 70 195#8).take (a1.length + 70)).length c0_ 1 (u8s ((a0 ++ List.replicate 70 195#8).take (a1.length + 70))) := va0.hi8 (by omega)
  have m7 := v5.mx
  refine OW.rv (RV.assign rfl) rfl (OW.nil (QW.then_n (CW.seq (CW.seq (CW.region (OW.rv (RV.assign rfl) rfl (OW.nil (QW.then_n ?_))))))))
  obtain ⟨q8, hq9, hf⟩ := some_bind hf
  refine CW.cutJ (fun L' M' => q8 = Lp.go () ∧ L' = [] ∧ M' = (([] ++ N))) ?_ ?_
  ·rintro L11 M12 ⟨e10, e13, e14⟩
   rw [e13, e14]
   clear e13 e14 L11 M12
   clear hq9
   rw [e10] at hf
   clear e10
   try dsimp only at hf
   refine QW.then_n (CW.seq (CW.region (OW.rv (RV.assign rfl) rfl (OW.nil (QW.then_n (CW.ret ?_))))))
   have e0 := Option.some.inj hf
   subst e0
   refine QW.retG (rs := [.tmp 4]) ([.bool true]) ([]) rfl ?_ rfl ?_ ?_ _ (.inl rfl)
   ·exact ⟨rfl, trivial⟩
   ·exact rfl
   ·exact (fun w m => m)
  ·skip
   refine CW.block (CW.loopJ (fun k L' M' => ∃ n15 : Nat, (waybilllaw17_still.l1 a0 a1 k n15) = some q8 ∧ (n15 ≤ 9223372036854775807) ∧ L' = [(1, .slice A1_ a1.length c1_), (5, .slice A0_ ((a0 ++ List.replicate 70 195#8).take (a1.length + 70)).length c0_), (6, .int .i64 ((n15 : Nat) : Int))] ∧ M' = (([] ++ N))) (k0 := ((((a0 ++ List.replicate 70 195#8).take (a1.length + 70)).length) - 0 + 2)) ⟨0, hq9, (by omega), rfl, rfl⟩ ⟨rfl, rfl, rfl, trivial⟩ (fun w m => m.pick [] 0 rfl rfl) ?_)
   clear hq9
   rintro k17 L20 M21 ⟨n15, hl18, b16, e22, e23⟩
   rw [e22, e23]
   clear e22 e23 L20 M21
   rcases k17 with _ | k17
   ·rw [waybilllaw17_still.l1] at hl18; cases hl18
   rw [waybilllaw17_still.l1] at hl18
   refine CW.seq (CW.seq (CW.region (OW.rv (RV.move rfl) rfl (OW.rv (RV.move rfl) rfl (OW.rv (RV.len rfl rfl) rfl (OW.rv (RV.lss rfl rfl) rfl (OW.slot (.bool (decide (n15 < ((a0 ++ List.replicate 70 195#8).take (a1.length + 70)).length))) (congrArg Value.bool (decide_eq_decide.2 (by omega))) (OW.nil (QW.then_n ?_)))))))))
   by_cases h24 : n15 < ((a0 ++ List.replicate 70 195#8).take (a1.length + 70)).length
   ·replace hl18 := if_t hl18 h24
    refine CW.is_t rfl (decide_eq_true h24) (CW.skip (QW.then_n (CW.seq (CW.block (CW.seq ?_)))))
    obtain ⟨q25, hq26, hl18⟩ := some_bind hl18
    refine CW.cutJ (fun L' M' => ∃ p27 : Bool, q25 = p27 ∧ L' = [(1, .slice A1_ a1.length c1_), (5, .slice A0_ ((a0 ++ List.replicate 70 195#8).take (a1.length + 70)).length c0_), (6, .int .i64 ((n15 : Nat) : Int)), (50, .bool (p27))] ∧ M' = (([] ++ N))) ?_ ?_
    ·rintro L29 M30 ⟨p27, e28, e31, e32⟩
     rw [e31, e32]
     clear e31 e32 L29 M30
     clear hq26
     rw [e28] at hl18
     clear e28
     try dsimp only at hl18
     refine QW.then_n ?_
     by_cases h33 : p27 = true
     ·replace hl18 := if_t hl18 h33
      refine CW.is_t rfl (h33) (CW.seq (CW.region (OW.rv (RV.assign rfl) rfl (OW.nil (QW.then_n (CW.ret (QW.block_r (QW.then_r (QW.then_r (QW.block_r (QW.then_r ?_)))))))))))
      have hc := Option.some.inj hl18
      subst hc
      try dsimp only at hf
      refine QW.then_r ?_
      have e0 := Option.some.inj hf
      subst e0
      refine QW.retG (rs := [.tmp 4]) ([.bool false]) ([]) rfl ?_ rfl ?_ ?_ _ (.inl rfl)
      ·exact ⟨rfl, trivial⟩
      ·exact rfl
      ·exact (fun w m => m)
     ·replace hl18 := if_f hl18 h33
      refine CW.is_f rfl (Bool.eq_false_iff.2 h33) (CW.skip (QW.block_n (QW.then_n (CW.region (OW.rv (RV.move rfl) rfl (OW.rv (RV.add rfl rfl (by omega)) rfl (OW.slot (.int .i64 (((n15 + 1) : Nat) : Int)) (by first | rfl | (congr 1) | (congr 1; omega)) (OW.rv (RV.assign rfl) rfl (OW.nil ?_)))))))))
      exact QW.againJ (k' := k17) (Nat.lt_succ_self _) ⟨(n15 + 1), hl18, (by omega), rfl, rfl⟩ ⟨rfl, rfl, rfl, trivial⟩ (fun w m => m.pick [] 0 rfl rfl)
    ·skip
     refine CW.drawsU 28 mixed (by kernel_rfl) rfl (UW.rv 0 rfl (by kernel_rfl) rfl (RV.move rfl) rfl (UW.rv 1 rfl (by kernel_rfl) rfl (RV.move rfl) rfl (UW.rv 2 rfl (by kernel_rfl) rfl (RV.len rfl rfl) rfl (UW.rv 3 rfl (by kernel_rfl) rfl (RV.lss rfl rfl) rfl (UW.slot (.bool (decide (n15 < a1.length))) (congrArg Value.bool (decide_eq_decide.2 (by omega))) (UW.rv 4 rfl (by kernel_rfl) rfl (RV.move rfl) rfl ?_))))))
     by_cases h34 : n15 < a1.length
     ·replace hq26 := if_t hq26 h34
      refine UW.slot (.bool true) (congrArg Value.bool (decide_eq_true h34)) (UW.rv 5 rfl (by kernel_rfl) rfl (RV.move rfl) rfl (UW.rv 6 rfl (by kernel_rfl) rfl (RV.move rfl) rfl ?_))
      obtain ⟨x35, hx36, hq26⟩ := some_bind hq26
      have hl37 := lt_of_at hx36
      refine UW.rv 7 rfl (by kernel_rfl) rfl (RV.idx_r (n15) rfl rfl rfl rfl rfl (v5.isSome (by decide) hl37) (by omega)) rfl (UW.rv 8 rfl (by kernel_rfl) rfl (RV.load_at rfl rfl rfl (fun w m => v5.cell (More.of hΦ 0 m rfl) (u8s_at hx36))) rfl (UW.rv 9 rfl (by kernel_rfl) rfl (RV.move rfl) rfl (UW.rv 10 rfl (by kernel_rfl) rfl (RV.move rfl) rfl ?_)))
      obtain ⟨x38, hx39, hq26⟩ := some_bind hq26
      have hl40 := lt_of_at hx39
      refine UW.rv 11 rfl (by kernel_rfl) rfl (RV.idx_r (n15) rfl rfl rfl rfl rfl (va1.isSome (by decide) hl40) (by omega)) rfl (UW.rv 12 rfl (by kernel_rfl) rfl (RV.load_at rfl rfl rfl (fun w m => va1.cell (More.of hΦ 0 m rfl) (u8s_at hx39))) rfl (UW.rv 13 rfl (by kernel_rfl) rfl (RV.neq8 rfl (by first | rfl | exact lit8 _ rfl) rfl (by first | rfl | exact lit8 _ rfl)) rfl (UW.rv 14 rfl (by kernel_rfl) rfl (RV.pick_t rfl rfl rfl) rfl (UW.rv 15 rfl (by kernel_rfl) rfl (RV.move rfl) rfl ?_))))
      by_cases h41 : x35 = x38
      ·replace hq26 := if_t hq26 h41
       refine UW.slot (.bool false) (congrArg Value.bool (congrArg (fun b => !b) (decide_eq_true h41))) (UW.rv 16 rfl (by kernel_rfl) rfl (RV.move rfl) rfl (UW.rv 17 rfl (by kernel_rfl) rfl (RV.move rfl) rfl (UW.rv 18 rfl (by kernel_rfl) rfl (RV.len rfl rfl) rfl (UW.rv 19 rfl (by kernel_rfl) rfl (RV.geq rfl rfl) rfl (UW.slot (.bool (decide (a1.length ≤ n15))) (congrArg Value.bool (decide_eq_decide.2 (by omega))) (UW.rv 20 rfl (by kernel_rfl) rfl (RV.move rfl) rfl ?_))))))
       by_cases h42 : a1.length ≤ n15
       ·replace hq26 := if_t hq26 h42
        refine UW.slot (.bool true) (congrArg Value.bool (decide_eq_true h42)) (UW.rv 21 rfl (by kernel_rfl) rfl (RV.move rfl) rfl (UW.rv 22 rfl (by kernel_rfl) rfl (RV.move rfl) rfl ?_))
        obtain ⟨x43, hx44, hq26⟩ := some_bind hq26
        have hl45 := lt_of_at hx44
        refine UW.rv 23 rfl (by kernel_rfl) rfl (RV.idx_r (n15) rfl rfl rfl rfl rfl (v5.isSome (by decide) hl45) (by omega)) rfl (UW.rv 24 rfl (by kernel_rfl) rfl (RV.load_at rfl rfl rfl (fun w m => v5.cell (More.of hΦ 0 m rfl) (u8s_at hx44))) rfl (UW.rv 25 rfl (by kernel_rfl) rfl (RV.neq8 rfl (by first | rfl | exact lit8 _ rfl) rfl (by first | rfl | exact lit8 _ rfl)) rfl (UW.rv 26 rfl (by kernel_rfl) rfl (RV.pick_t rfl rfl rfl) rfl (UW.rv 27 rfl (by kernel_rfl) rfl (RV.pick_f rfl rfl rfl) rfl (UW.nil (by kernel_rfl) (OW.nil ?_))))))
        exact QW.join ⟨(!decide (x43 = 195#8)), (Option.some.inj hq26).symm, rfl, rfl⟩ ⟨rfl, rfl, rfl, rfl, trivial⟩ (fun w m => m.pick [] 0 rfl rfl)
       ·replace hq26 := if_f hq26 h42
        refine UW.slot (.bool false) (congrArg Value.bool (decide_eq_false h42)) (UW.skip 21 rfl (by kernel_rfl) rfl rfl (UW.skip 22 rfl (by kernel_rfl) rfl rfl (UW.skip 23 rfl (by kernel_rfl) rfl rfl (UW.skip 24 rfl (by kernel_rfl) rfl rfl (UW.skip 25 rfl (by kernel_rfl) rfl rfl (UW.rv 26 rfl (by kernel_rfl) rfl (RV.pick_f rfl rfl rfl) rfl (UW.rv 27 rfl (by kernel_rfl) rfl (RV.pick_f rfl rfl rfl) rfl (UW.nil (by kernel_rfl) (OW.nil ?_)))))))))
        exact QW.join ⟨false, (Option.some.inj hq26).symm, rfl, rfl⟩ ⟨rfl, rfl, rfl, rfl, trivial⟩ (fun w m => m.pick [] 0 rfl rfl)
      ·replace hq26 := if_f hq26 h41
       refine UW.slot (.bool true) (congrArg Value.bool (congrArg (fun b => !b) (decide_eq_false h41))) (UW.skip 16 rfl (by kernel_rfl) rfl rfl (UW.skip 17 rfl (by kernel_rfl) rfl rfl (UW.skip 18 rfl (by kernel_rfl) rfl rfl (UW.skip 19 rfl (by kernel_rfl) rfl rfl (UW.skip 20 rfl (by kernel_rfl) rfl rfl (UW.skip 21 rfl (by kernel_rfl) rfl rfl (UW.skip 22 rfl (by kernel_rfl) rfl rfl (UW.skip 23 rfl (by kernel_rfl) rfl rfl (UW.skip 24 rfl (by kernel_rfl) rfl rfl (UW.skip 25 rfl (by kernel_rfl) rfl rfl (UW.skip 26 rfl (by kernel_rfl) rfl rfl (UW.rv 27 rfl (by kernel_rfl) rfl (RV.pick_t rfl rfl rfl) rfl (UW.nil (by kernel_rfl) (OW.nil ?_))))))))))))))
       exact QW.join ⟨true, (Option.some.inj hq26).symm, rfl, rfl⟩ ⟨rfl, rfl, rfl, rfl, trivial⟩ (fun w m => m.pick [] 0 rfl rfl)
     ·replace hq26 := if_f hq26 h34
      refine UW.slot (.bool false) (congrArg Value.bool (decide_eq_false h34)) (UW.skip 5 rfl (by kernel_rfl) rfl rfl (UW.skip 6 rfl (by kernel_rfl) rfl rfl (UW.skip 7 rfl (by kernel_rfl) rfl rfl (UW.skip 8 rfl (by kernel_rfl) rfl rfl (UW.skip 9 rfl (by kernel_rfl) rfl rfl (UW.skip 10 rfl (by kernel_rfl) rfl rfl (UW.skip 11 rfl (by kernel_rfl) rfl rfl (UW.skip 12 rfl (by kernel_rfl) rfl rfl (UW.skip 13 rfl (by kernel_rfl) rfl rfl (UW.rv 14 rfl (by kernel_rfl) rfl (RV.pick_f rfl rfl rfl) rfl (UW.rv 15 rfl (by kernel_rfl) rfl (RV.move rfl) rfl (UW.rv 16 rfl (by kernel_rfl) rfl (RV.move rfl) rfl (UW.rv 17 rfl (by kernel_rfl) rfl (RV.move rfl) rfl (UW.rv 18 rfl (by kernel_rfl) rfl (RV.len rfl rfl) rfl (UW.rv 19 rfl (by kernel_rfl) rfl (RV.geq rfl rfl) rfl (UW.slot (.bool (decide (a1.length ≤ n15))) (congrArg Value.bool (decide_eq_decide.2 (by omega))) (UW.rv 20 rfl (by kernel_rfl) rfl (RV.move rfl) rfl ?_)))))))))))))))))
      by_cases h46 : a1.length ≤ n15
      ·replace hq26 := if_t hq26 h46
       refine UW.slot (.bool true) (congrArg Value.bool (decide_eq_true h46)) (UW.rv 21 rfl (by kernel_rfl) rfl (RV.move rfl) rfl (UW.rv 22 rfl (by kernel_rfl) rfl (RV.move rfl) rfl ?_))
       obtain ⟨x47, hx48, hq26⟩ := some_bind hq26
       have hl49 := lt_of_at hx48
       refine UW.rv 23 rfl (by kernel_rfl) rfl (RV.idx_r (n15) rfl rfl rfl rfl rfl (v5.isSome (by decide) hl49) (by omega)) rfl (UW.rv 24 rfl (by kernel_rfl) rfl (RV.load_at rfl rfl rfl (fun w m => v5.cell (More.of hΦ 0 m rfl) (u8s_at hx48))) rfl (UW.rv 25 rfl (by kernel_rfl) rfl (RV.neq8 rfl (by first | rfl | exact lit8 _ rfl) rfl (by first | rfl | exact lit8 _ rfl)) rfl (UW.rv 26 rfl (by kernel_rfl) rfl (RV.pick_t rfl rfl rfl) rfl (UW.rv 27 rfl (by kernel_rfl) rfl (RV.pick_f rfl rfl rfl) rfl (UW.nil (by kernel_rfl) (OW.nil ?_))))))
       exact QW.join ⟨(!decide (x47 = 195#8)), (Option.some.inj hq26).symm, rfl, rfl⟩ ⟨rfl, rfl, rfl, rfl, trivial⟩ (fun w m => m.pick [] 0 rfl rfl)
      ·replace hq26 := if_f hq26 h46
       refine UW.slot (.bool false) (congrArg Value.bool (decide_eq_false h46)) (UW.skip 21 rfl (by kernel_rfl) rfl rfl (UW.skip 22 rfl (by kernel_rfl) rfl rfl (UW.skip 23 rfl (by kernel_rfl) rfl rfl (UW.skip 24 rfl (by kernel_rfl) rfl rfl (UW.skip 25 rfl (by kernel_rfl) rfl rfl (UW.rv 26 rfl (by kernel_rfl) rfl (RV.pick_f rfl rfl rfl) rfl (UW.rv 27 rfl (by kernel_rfl) rfl (RV.pick_f rfl rfl rfl) rfl (UW.nil (by kernel_rfl) (OW.nil ?_)))))))))
       exact QW.join ⟨false, (Option.some.inj hq26).symm, rfl, rfl⟩ ⟨rfl, rfl, rfl, rfl, trivial⟩ (fun w m => m.pick [] 0 rfl rfl)
   ·replace hl18 := if_f hl18 h24
    refine CW.is_f rfl (decide_eq_false h24) (CW.exit (QW.then_x (QW.then_x (QW.block_xe ?_))))
    exact QW.join ⟨(Option.some.inj hl18).symm, rfl, rfl⟩ trivial (fun w m => m.pick [] 0 rfl rfl)
 ·replace hf := if_f hf h4
  refine CW.is_t rfl (congrArg (fun b => !b) (decide_eq_false h4)) (CW.seq (CW.region (OW.rv (RV.assign rfl) rfl (OW.nil (QW.then_n (CW.ret (QW.then_r ?_)))))))
  have e0 := Option.some.inj hf
  subst e0
  refine QW.retG (rs := [.tmp 4]) ([.bool false]) ([]) rfl ?_ rfl ?_ ?_ _ (.inl rfl)
  ·exact ⟨rfl, trivial⟩
  ·exact rfl
  ·exact (fun w m => m)
abbrev TwC (gs : List Lg) (m : Nat) : List Value := lgC gs ++ (zc m ++ LgMk.C)
theorem waybilllaw17_twin_own (w0 : World) (Φ : Ctx) (N : List Ent) (hΦ : ∀ w, Mem w0 w N → Φ w) (A : Option Addr) (c : Nat) (cs : List Value) (logs x : List Log) (va : View Φ A logs.length c 22 cs) (ha : Reps (LogRd Φ) cs logs) (hf : waybilllaw17_twin logs = some x) :
  DoesG Tryd.prog 18 [.slice A logs.length c] w0 [] N (fun v G => ∃ (gs : List Lg) (b : Nat), (∀ g ∈ gs, LgM g) ∧ gs.map Lg.val = x ∧ x.length * 72 ≤ 140737488355328 ∧ v = sl (some b) 0 x.length (x.length + 1) ∧ G = (some b, blk (lgC gs ++ LgMk.C) 63) :: lgs 24 5 gs) := by
 have hm := va.mx
 unfold waybilllaw17_twin at hf
 obtain ⟨hfit, hf⟩ := some_if hf
 obtain rfl := Option.some.inj hf
 simp only [twfit, Bool.and_eq_true, List.all_eq_true, decide_eq_true_eq] at hfit
 obtain ⟨hfit1, hfit2⟩ := hfit
 refine DoesG.enter Tryd.func18 rfl Tryd.ntmps18 rfl (M := N) rfl (CW.seq (CW.region (OW.rv (RV.assign rfl) rfl (OW.nil ?_))))
 (refine QW.then_n ?_; refine CW.seq ?_)
 refine CW.region (OW.rv (RV.move rfl) rfl (OW.rv (RV.len rfl rfl) rfl (OW.rv (RV.add rfl rfl (by omega)) rfl (OW.makeS (zs := LogZ0.C) (logs.length + 1) (logs.length + 1) rfl (by omega) rfl (by omega) rfl rfl rfl (by kernel_rfl) (LogC.C_length _) (by omega) (by simp only [i63]; omega) (by omega) rfl (fun b9 => (OW.rv (RV.assign rfl) rfl (OW.nil ?_)))))))
 (refine QW.then_n ?_; refine CW.seq ?_)
 refine CW.region (OW.rv (RV.move rfl) rfl (OW.rv (RV.move rfl) rfl (OW.rv (RV.len rfl rfl) rfl (OW.rv (RV.buildA (l := List.replicate 20 (.int .u8 0)) (cs := u8s mk20.toList) rfl rfl rfl (by kernel_rfl) rfl rfl rfl) rfl ?_))))
 refine OW.rv (RV.buildSt (l := LogZ0.C) (cs := LgMk.C) [(0, u8s mk20.toList)] rfl rfl rfl (by kernel_rfl) rfl rfl (by refine (fillL_cons rfl ((u8s_length _).trans Vector.length_toList) (by rw [LogC.C_length]; exact Nat.le_of_ble_eq_true rfl)).trans ?_; rw [LogC.C_address_spl]; rfl)) rfl ?_
 refine OW.rv (RV.idx_os (logs.length) rfl rfl rfl rfl rfl rfl (by omega)) rfl ?_
 refine OW.sv (SV.storeAs rfl rfl rfl (LogC.C_one _ rfl rfl) rfl (LogC.C_length _) (by show 0 + logs.length * 22 + 22 ≤ (zc (logs.length + 1)).length; rw [zc_length]; omega)) ?_; refine OW.cells (TwC [] logs.length) (by rw [Nat.zero_add]; exact tw_mark _) ?_
 refine OW.nil ?_
 (refine QW.then_n ?_; refine CW.seq ?_; refine CW.seq ?_)
 refine CW.region (OW.rv (RV.assign rfl) rfl (OW.nil ?_))
 (refine QW.then_n ?_; refine CW.block ?_)
 refine CW.loopJ (fun k L' M' => ∃ (i : Nat) (gs : List Lg), k = logs.length - i ∧ i ≤ logs.length ∧ gs.map Lg.val = logs.take i ∧ (∀ g ∈ gs, LgM g) ∧ L' = [(0, .slice A logs.length c), (3, sl (some b9) 0 (logs.length + 1) (logs.length + 1)), (4, .int .i64 (i : Int))] ∧
  M' = (some b9, blk (TwC gs (logs.length - i)) 63) :: (lgs 24 5 gs ++ N)) (k0 := logs.length) ⟨0, [], rfl, by omega, rfl, (fun g hg => by cases hg), rfl, rfl⟩ ⟨rfl, rfl, rfl, trivial⟩ (fun w m => m) ?_
 rintro k L' M' ⟨i, gs, rfl, hi, hgv, hok, rfl, rfl⟩
 have hgl : gs.length = i := by have := congrArg List.length hgv; rw [List.length_map, List.length_take] at this; omega
 (refine CW.seq ?_; refine CW.seq ?_)
 refine CW.region (OW.rv (RV.move rfl) rfl (OW.rv (RV.move rfl) rfl (OW.rv (RV.len rfl rfl) rfl (OW.rv (RV.lss rfl rfl) rfl (OW.nil (QW.then_n ?_))))))
 refine CW.cond_p rfl (fun hlt2 => ?_) (fun hlt2 => ?_)
 ·have h1 : i < logs.length := by omega
  have hx : logs[i]? = some logs[i] := List.getElem?_eq_getElem h1
  obtain ⟨ci, hci, hcc⟩ := ha.get LogRd.len hx
  obtain ⟨At, ct, cst, Ad, cd, rfl, vt, ht, vd⟩ := LogRd.opn hci
  have hst := hs32_of ht
  subst hst
  obtain ⟨hfx, hfd⟩ := hfit1 _ (List.getElem_mem h1)
  have hmt := vt.mx
  have hmd := vd.mx
  have hsome := va.isSome (by decide) h1
  generalize hlx : logs[i] = lx at *
  (refine CW.skip ?_; refine QW.then_n ?_; refine CW.seq ?_; refine CW.block ?_; refine CW.seq ?_)
  refine CW.region (OW.rv (RV.move rfl) rfl (OW.rv (RV.move rfl) rfl (OW.rv (RV.idx_rs (i) rfl rfl rfl rfl rfl hsome (by omega)) rfl (OW.rv (RV.field_at rfl rfl rfl rfl) rfl (OW.rv (RV.load_at rfl rfl rfl (fun w m => va.load_fld (hΦ w (m.drop 1).appR) hcc (LogC.C_topics _))) rfl (OW.rv (RV.len rfl rfl) rfl (OW.rv (RV.add rfl rfl (by omega)) rfl (OW.makeS (zs := u8s (Vector.replicate 32 0#8).toList) (lx.topics.length + 1) (lx.topics.length + 1) rfl (by omega) rfl (by omega) rfl rfl rfl (by kernel_rfl) ((u8s_length _).trans Vector.length_toList) (by omega) (by simp only [i24]; omega) (by omega) rfl (fun bt => (OW.rv (RV.assign rfl) rfl (OW.nil ?_)))))))))))
  (refine QW.then_n ?_; refine CW.seq ?_)
  refine CW.region (OW.rv (RV.move rfl) rfl (OW.rv (RV.move rfl) rfl (OW.rv (RV.move rfl) rfl (OW.rv (RV.idx_rs (i) rfl rfl rfl rfl rfl hsome (by omega)) rfl (OW.rv (RV.field_at rfl rfl rfl rfl) rfl (OW.rv (RV.load_at rfl rfl rfl (fun w m => va.load_fld (hΦ w (m.drop 2).appR) hcc (LogC.C_topics _))) rfl ?_))))))
  refine OW.copyS (s := 32) rfl rfl rfl rfl (fun e => nomatch e) (by rw [Nat.zero_add, List.length_flatten, List.map_replicate, List.sum_replicate_nat, u8s_length, Vector.length_toList]; exact Nat.le_refl _) (fun w m => vt.rd w (hΦ w (m.drop 2).appR)) vt.n (hs32_one _) (vt.zero (by decide)) rfl ?_; refine OW.cells (hs32 lx.topics ++ u8s (Vector.replicate 32 0#8).toList) (make_copyS (hs32 lx.topics) (u8s (Vector.replicate 32 0#8).toList) ((u8s_length _).trans Vector.length_toList) (hs32_length _) (by omega)) ?_
  refine OW.nil ?_
  (refine QW.then_n ?_; refine CW.seq ?_)
  refine CW.region (OW.rv (RV.move rfl) rfl (OW.rv (RV.move rfl) rfl (OW.rv (RV.move rfl) rfl (OW.rv (RV.idx_rs (i) rfl rfl rfl rfl rfl hsome (by omega)) rfl (OW.rv (RV.field_at rfl rfl rfl rfl) rfl (OW.rv (RV.load_at rfl rfl rfl (fun w m => va.load_fld (hΦ w (m.drop 2).appR) hcc (LogC.C_topics _))) rfl (OW.rv (RV.len rfl rfl) rfl (OW.rv (RV.buildA (l := List.replicate 32 (.int .u8 0)) (cs := u8s mk32.toList) rfl rfl rfl (by kernel_rfl) rfl rfl rfl) rfl (OW.rv (RV.idx_os (lx.topics.length) rfl rfl rfl rfl rfl rfl (by omega)) rfl ?_)))))))))
  refine OW.sv (SV.storeAs rfl rfl rfl (u8s_one _) rfl ((u8s_length _).trans Vector.length_toList) (by show 0 + lx.topics.length * 32 + 32 ≤ _; rw [List.length_append, hs32_length, u8s_length, Vector.length_toList]; omega)) ?_; refine OW.cells (hs32 lx.topics ++ u8s mk32.toList) (by rw [Nat.zero_add]; exact tw_topic _ _ ((u8s_length _).trans Vector.length_toList)) ?_
  refine OW.nil (QW.then_n (CW.drawsX ((some bt, blk (hs32 lx.topics ++ u8s mk32.toList) 24) :: (lgs 24 5 gs ++ N)) [23] (fun w m => m.pick [0] 2 rfl rfl) mixed (by kernel_rfl) (XW.rs 0 rfl (by kernel_rfl) rfl (RV.move rfl) rfl (XW.rs 1 rfl (by kernel_rfl) rfl (RV.move rfl) rfl (XW.rs 2 rfl (by kernel_rfl) rfl (RV.move rfl) rfl (XW.rs 3 rfl (by kernel_rfl) rfl (RV.move rfl) rfl (XW.rs 4 rfl (by kernel_rfl) rfl (RV.idx_rs (i) rfl rfl rfl rfl rfl hsome (by omega)) rfl (XW.rs 5 rfl (by kernel_rfl) rfl (RV.field_at rfl rfl rfl rfl) rfl (XW.rs 6 rfl (by kernel_rfl) rfl (RV.loadAs rfl rfl rfl rfl (fun w m => va.load_part (hΦ w (m.drop 1).appR) hcc (LogC.C_address_all _)) ((u8s_length _).trans Vector.length_toList)) rfl (XW.rs 7 rfl (by kernel_rfl) rfl (RV.move rfl) rfl (XW.rs 8 rfl (by kernel_rfl) rfl (RV.move rfl) rfl (XW.rs 9 rfl (by kernel_rfl) rfl (RV.move rfl) rfl (XW.rs 10 rfl (by kernel_rfl) rfl (RV.idx_rs (i) rfl rfl rfl rfl rfl hsome (by omega)) rfl (XW.rs 11 rfl (by kernel_rfl) rfl (RV.field_at rfl rfl rfl rfl) rfl (XW.rs 12 rfl (by kernel_rfl) rfl (RV.load_at rfl rfl rfl (fun w m => va.load_fld (hΦ w (m.drop 1).appR) hcc (LogC.C_topics _))) rfl (XW.rs 13 rfl (by kernel_rfl) rfl (RV.len rfl rfl) rfl (XW.rs 14 rfl (by kernel_rfl) rfl (RV.cut_o (lx.topics.length) rfl rfl rfl rfl rfl (by omega)) rfl (XW.rs 15 rfl (by kernel_rfl) rfl (RV.move rfl) rfl (XW.rs 16 rfl (by kernel_rfl) rfl (RV.move rfl) rfl (XW.rs 17 rfl (by kernel_rfl) rfl (RV.idx_rs (i) rfl rfl rfl rfl rfl hsome (by omega)) rfl (XW.rs 18 rfl (by kernel_rfl) rfl (RV.field_at rfl rfl rfl rfl) rfl (XW.rs 19 rfl (by kernel_rfl) rfl (RV.load_at rfl rfl rfl (fun w m => va.load_fld (hΦ w (m.drop 1).appR) hcc (LogC.C_data _))) rfl ?_))))))))))))))))))))))
  refine XW.callG 20 rfl (by kernel_rfl) rfl Tryd.call38 rfl (fun N' hN' => waybilllaw17_lent_raw w0 Φ N' (fun w m => hΦ w ((hN' w m).drop 2).appR) Ad cd lx.data lx.data vd (by unfold waybilllaw17_lent lentN; exact if_pos (by omega))) rfl ?_
  rintro _ _ ⟨bd, od, _, rfl, rfl⟩
  generalize hg : (⟨lx.address, some bt, lx.topics, lx.topics.length + 1, u8s mk32.toList, some bd, lx.data, lx.data.length + 70, u8s (List.replicate 70 195#8) ++ []⟩ : Lg) = g
  have gm : LgM g := by
   rw [← hg]
   exact ⟨⟨⟨hs32_length _, by show (hs32 lx.topics ++ u8s mk32.toList).length = (lx.topics.length + 1) * 32; rw [List.length_append, hs32_length, u8s_length, Vector.length_toList]; omega, (fun e => nomatch e), by show lx.topics.length ≤ _; omega⟩, od⟩, rfl, rfl, rfl, rfl, by show lx.topics.length + 1 ≤ _; omega, by show lx.data.length + 70 ≤ _; omega⟩
  have gval : g.val = lx := by rw [← hg]; rfl
  have gent : g.ents 24 5 = [(some bt, blk (hs32 lx.topics ++ u8s mk32.toList) 24), (some bd, blk (u8s lx.data ++ (u8s (List.replicate 70 195#8) ++ [])) 5)] := by rw [← hg]; rfl
  refine XW.rs 21 rfl (by kernel_rfl) rfl (RV.buildSt (l := LogZ0.C) (cs := g.cells) [(0, u8s lx.address.toList), (1, [sl (some bt) 0 lx.topics.length (lx.topics.length + 1)]), (2, [sl (some bd) 0 lx.data.length (lx.data.length + 70)])] rfl rfl rfl (by kernel_rfl) rfl rfl (by
   rw [← hg]
   refine (fillL_cons rfl ((u8s_length _).trans Vector.length_toList) (by rw [LogC.C_length]; exact Nat.le_of_ble_eq_true rfl)).trans ?_; rw [LogC.C_address_spl]
   refine (fillL_cons rfl rfl (by rw [LogC.C_length]; exact Nat.le_of_ble_eq_true rfl)).trans ?_; rw [spl_one (by rw [LogC.C_length]; exact Nat.le_of_ble_eq_true rfl), LogC.C_topics_set]
   refine (fillL_cons rfl rfl (by rw [LogC.C_length]; exact Nat.le_of_ble_eq_true rfl)).trans ?_; rw [spl_one (by rw [LogC.C_length]; exact Nat.le_of_ble_eq_true rfl), LogC.C_data_set]
   rfl)) rfl ?_
  refine XW.rs 22 rfl (by kernel_rfl) rfl (RV.idx_os (i) rfl rfl rfl rfl rfl rfl (by omega)) rfl (XW.mem (M' := (some b9, blk (TwC gs (logs.length - i)) 63) :: (some bt, blk (hs32 lx.topics ++ u8s mk32.toList) 24) :: (some bd, blk (u8s lx.data ++ (u8s (List.replicate 70 195#8) ++ [])) 5) :: (lgs 24 5 gs ++ N)) (fun w m => m.pick [2, 1, 0] 3 rfl rfl) (fun w m => m.pick [1] 3 rfl rfl) ?_)
  refine XW.sv 23 rfl (by kernel_rfl) (SV.storeAs rfl rfl rfl g.cells_one rfl g.cells_length (by show 0 + i * 22 + 22 ≤ _; rw [List.length_append, List.length_append, lgC_length, zc_length, LogC.C_length]; omega)) (fun w m => m.pick [1] 3 rfl rfl) ?_
  refine XW.cells (TwC (gs ++ [g]) (logs.length - (i + 1))) (by rw [show logs.length - i = (logs.length - (i + 1)) + 1 by omega]; exact tw_set (show 0 + i * 22 = gs.length * 22 by omega)) ?_
  refine XW.nil (by kernel_rfl) ?_
  (refine QW.block_n ?_; refine QW.then_n ?_)
  refine CW.region (OW.rv (RV.move rfl) rfl (OW.rv (RV.add rfl rfl (by omega)) rfl (OW.rv (RV.assign rfl) rfl (OW.nil ?_))))
  refine QW.againJ (k' := logs.length - (i + 1)) (by omega) ⟨i + 1, gs ++ [g], rfl, by omega, by rw [List.map_append, hgv, List.take_add_one, hx, List.map_cons, gval]; rfl, ?_, rfl, rfl⟩ ⟨rfl, rfl, rfl, trivial⟩ (fun w m => lgs_snoc (X := [_]) (by rw [gent]; exact m)) 
  intro x hx
  rcases List.mem_append.1 hx with hx | hx
  ·exact hok x hx
  ·obtain rfl := List.mem_singleton.1 hx
   exact gm
 ·have hie : i = logs.length := by omega
  subst hie
  rw [List.take_length] at hgv
  (refine CW.exit ?_; refine QW.then_x ?_; refine QW.then_x ?_; refine QW.block_xe ?_; refine QW.then_n ?_; refine CW.seq ?_)
  refine CW.region (OW.rv (RV.move rfl) rfl (OW.rv (RV.move rfl) rfl (OW.rv (RV.len rfl rfl) rfl (OW.rv (RV.cut_o _ rfl rfl rfl rfl rfl (by omega)) rfl (OW.rv (RV.assign rfl) rfl (OW.nil ?_))))))
  (refine QW.then_n ?_; refine CW.ret ?_)
  refine QW.retG (rs := [.tmp 2]) [sl (some b9) 0 logs.length (logs.length + 1)] ((some b9, blk (lgC gs ++ LgMk.C) 63) :: lgs 24 5 gs) rfl ?_ rfl ⟨gs, b9, hok, hgv, hfit2, rfl, rfl⟩ (fun w m => ?_) _ (.inl rfl)
  ·exact ⟨rfl, trivial⟩
  ·rw [Nat.sub_self] at m
   exact m
theorem waybilllaw17_twin_does (w0 : World) (Φ : Ctx) (N : List Ent) (hΦ : ∀ w, Mem w0 w N → Φ w) (A : Option Addr) (c : Nat) (cs : List Value) (logs x : List Log) (va : View Φ A logs.length c 22 cs) (ha : Reps (LogRd Φ) cs logs) (hf : waybilllaw17_twin logs = some x) :
  DoesG Tryd.prog 18 [.slice A logs.length c] w0 [] N (fun v G => ∃ B : List Ent, ∃ Ar0 : Option Addr, ∃ kr0 : Nat, LRooms (More w0 Φ B) Ar0 kr0 x ∧ v = .slice Ar0 x.length kr0 ∧ G = B) :=
 (waybilllaw17_twin_own w0 Φ N hΦ A c cs logs x va ha hf).mono fun v G ⟨gs, b, hok, hv, hl, e1, e2⟩ => by
  subst hv e1 e2
  have hr := lgm_reps (w0 := w0) (Φ := More w0 Φ ((some b, blk (lgC gs ++ LgMk.C) 63) :: lgs 24 5 gs)) (tH := 24) (tB := 5) hok (fun w q => q.2.tail)
  have hc : (lgC gs ++ LgMk.C).length = ((gs.map Lg.val).length + 1) * 22 := by rw [List.length_append, lgC_length, LogC.C_length, List.length_map]; omega
  have ho : OwnS (some b) ((gs.map Lg.val).length + 1) ((gs.map Lg.val).length + 1) 22 (lgC gs ++ LgMk.C) [] := ⟨hc, by rw [List.append_nil]; exact hc, (fun e => nomatch e), by omega⟩
  have hvl := ho.view (te := 63) (w0 := w0) (Ψ := More w0 Φ ((some b, blk (lgC gs ++ LgMk.C) 63) :: lgs 24 5 gs)) (by decide) (fun w q => by rw [List.append_nil]; exact q.2.sublist (List.singleton_sublist.2 (List.mem_cons_self ..)))
  exact ⟨_, _, _, LRooms.mk hvl hr, rfl, rfl⟩
theorem waybilllaw17_stillLogs_does (w0 : World) (Φ : Ctx) (N : List Ent) (hΦ : ∀ w, Mem w0 w N → Φ w) (A0 : Option Addr) (c0 : Nat) (x : List Log) (A1 : Option Addr) (c1 : Nat) (cs1 : List Value) (y : List Log) (r : Bool) (h0 : LRooms Φ A0 c0 x) (va1 : View Φ A1 y.length c1 22 cs1) (ha1 : Reps (LogRd Φ) cs1 y) (hf : waybilllaw17_stillLogs x y = some r) :
  DoesG Tryd.prog 24 [.slice A0 x.length c0, .slice A1 y.length c1] w0 [] N (fun v G => v = .bool r) := by
 obtain ⟨rfl, rfl, hsame⟩ := stillLogs_true hf
 obtain ⟨cs, vb, v0, r0⟩ := h0.opn
 have rl := r0.mono LmRd.log
 have hm := vb.mx
 have hle := vb.le
 have hlen := r0.len LmRd.len
 have hs0 : A0.isSome = true := vb.isSome (by decide) (i := 0) (by omega)
 refine DoesG.enter Tryd.func24 rfl Tryd.ntmps24 rfl (M := N) rfl (CW.seq (CW.region (OW.rv (RV.assign rfl) rfl (OW.nil ?_))))
 (refine QW.then_n ?_; refine CW.seq ?_)
 refine CW.region (OW.rv (RV.move rfl) rfl (OW.rv (RV.move rfl) rfl (OW.rv (RV.len rfl rfl) rfl (OW.rv (RV.add rfl rfl (by omega)) rfl (OW.rv (RV.cut_hi (x.length + 1) rfl rfl (by omega) rfl rfl (by omega)) rfl (OW.rv (RV.assign rfl) rfl (OW.nil ?_)))))))
 (refine QW.then_n ?_; refine CW.seq ?_; refine CW.seq ?_)
 refine CW.region (OW.rv (RV.move rfl) rfl (OW.rv (RV.move rfl) rfl (OW.callG Tryd.call45 rfl (waybilllaw17_sameLogs_does w0 Φ N hΦ A0 c0 cs x A1 c1 cs1 x true v0 rl va1 ha1 hsame) rfl rfl ?_)))
 rintro _ G1 rfl
 refine OW.mem (M' := N) (fun w m => m.appR) (OW.rv (RV.not rfl) rfl (OW.rv (RV.move rfl) rfl (OW.want rfl (OW.rv (RV.move rfl) rfl (OW.want rfl (OW.rv (RV.move rfl) rfl (OW.want rfl (OW.rv (RV.len rfl rfl) rfl (OW.want rfl (OW.rv (RV.idx_rs (x.length) rfl rfl rfl rfl rfl hs0 (by omega)) rfl (OW.want rfl (OW.rv (RV.field_at rfl rfl rfl rfl) rfl (OW.want rfl ?_)))))))))))))
 refine OW.rv (RV.loadAs (vs := u8s mk20.toList) rfl rfl rfl rfl (fun w m => vb.load_part (hΦ w m) (cs := LgMk.C) (fun j u hj => by rw [List.getElem?_append_right (by show cs.length ≤ x.length * 22 + j; omega)]; rw [show x.length * i63.sz + j - cs.length = j by show x.length * 22 + j - cs.length = j; omega]; exact hj) (LogC.C_address_all LgMk)) ((u8s_length _).trans Vector.length_toList)) rfl ?_
 refine OW.want rfl (OW.rv (RV.buildA (l := List.replicate 20 (.int .u8 0)) (cs := u8s mk20.toList) rfl rfl rfl (by kernel_rfl) rfl rfl rfl) rfl (OW.want rfl (OW.rv (RV.neA8_f rfl rfl rfl rfl rfl rfl (Vector.length_toList) rfl) rfl (OW.rv (RV.pick_f rfl rfl rfl) rfl (OW.nil (QW.then_n (CW.cond_f rfl ?_)))))))
 (refine CW.skip ?_; refine QW.then_n ?_; refine CW.seq ?_; refine CW.seq ?_)
 refine CW.region (OW.rv (RV.assign rfl) rfl (OW.nil ?_))
 (refine QW.then_n ?_; refine CW.block ?_)
 refine CW.loopJ (fun k L' M' => ∃ (i : Nat), k = x.length - i ∧ i ≤ x.length ∧ L' = [(0, .slice A0 x.length c0), (1, .slice A1 x.length c1), (6, .int .i64 (i : Int))] ∧
  M' = N) (k0 := x.length) ⟨0, rfl, by omega, rfl, rfl⟩ ⟨rfl, rfl, rfl, trivial⟩ (fun w m => m) ?_
 rintro k L' M' ⟨i, rfl, hi, rfl, hM⟩
 rw [hM]
 clear hM M'
 (refine CW.seq ?_; refine CW.seq ?_)
 refine CW.region (OW.rv (RV.move rfl) rfl (OW.rv (RV.move rfl) rfl (OW.rv (RV.len rfl rfl) rfl (OW.rv (RV.lss rfl rfl) rfl (OW.nil (QW.then_n ?_))))))
 refine CW.cond_p rfl (fun hlt2 => ?_) (fun hlt2 => ?_)
 ·have h1 : i < x.length := by omega
  have hx : x[i]? = some x[i] := List.getElem?_eq_getElem h1
  obtain ⟨ci, hci, hcc⟩ := ha1.get LogRd.len hx
  obtain ⟨At, ct, cst, Ad, cd, rfl, vt, ht, vd⟩ := LogRd.opn hci
  obtain ⟨cj, ⟨B1, B2, hcj, w1, w2⟩, hcd⟩ := r0.get LmRd.len hx
  subst hcj
  have hs1 := va1.isSome (by decide) h1
  have hst := still17_eq (x[i]).data
  have hmw := w1.mx
  have hsw := w1.isSome (by decide) (i := (x[i]).topics.length) (by omega)
  generalize hlx : x[i] = lx at *
  have hl32 : (hs32 lx.topics).length = lx.topics.length * 32 := hs32_length _
  (refine CW.skip ?_; refine QW.then_n ?_; refine CW.seq ?_; refine CW.block ?_; refine CW.seq ?_)
  refine CW.region (OW.rv (RV.move rfl) rfl (OW.rv (RV.move rfl) rfl (OW.rv (RV.idx_rs (i) rfl rfl rfl rfl rfl hs1 (by omega)) rfl (OW.rv (RV.field_at rfl rfl rfl rfl) rfl (OW.rv (RV.load_at rfl rfl rfl (fun w m => va1.load_fld (hΦ w m) hcc (LogC.C_topics _))) rfl (OW.rv (RV.len rfl rfl) rfl (OW.rv (RV.assign rfl) rfl (OW.nil ?_))))))))
  (refine QW.then_n ?_; refine CW.seq ?_)
  refine CW.region (OW.rv (RV.move rfl) rfl (OW.rv (RV.move rfl) rfl (OW.rv (RV.idx_rs (i) rfl rfl rfl rfl rfl hs0 (by omega)) rfl (OW.rv (RV.field_at rfl rfl rfl rfl) rfl (OW.rv (RV.load_at rfl rfl rfl (fun w m => v0.load_fld (hΦ w m) hcd (LogC.C_topics _))) rfl (OW.rv (RV.move rfl) rfl (OW.rv (RV.add rfl rfl (by omega)) rfl (OW.rv (RV.cut_hi (lx.topics.length + 1) rfl rfl (by omega) rfl rfl (by omega)) rfl (OW.rv (RV.assign rfl) rfl (OW.nil ?_))))))))))
  (refine QW.then_n ?_; refine CW.seq ?_)
  refine CW.drawsX N [] (fun w m => m) mixed (by kernel_rfl) (XW.rs 0 rfl (by kernel_rfl) rfl (RV.move rfl) rfl (XW.rs 1 rfl (by kernel_rfl) rfl (RV.move rfl) rfl (XW.rs 2 rfl (by kernel_rfl) rfl (RV.idx_rs (lx.topics.length) rfl rfl rfl rfl rfl hsw (by omega)) rfl ?_)))
  refine XW.rs 3 rfl (by kernel_rfl) rfl (RV.loadAs (vs := u8s mk32.toList) rfl rfl rfl rfl (fun w m => w1.load (hΦ w m) (fun j u hj => by rw [List.getElem?_append_right (by show _ ≤ lx.topics.length * 32 + j; omega)]; rw [show lx.topics.length * i24.sz + j - (hs32 lx.topics).length = j by show lx.topics.length * 32 + j - _ = j; omega]; exact hj)) ((u8s_length _).trans Vector.length_toList)) rfl ?_
  refine XW.rs 4 rfl (by kernel_rfl) rfl (RV.buildA (l := List.replicate 32 (.int .u8 0)) (cs := u8s mk32.toList) rfl rfl rfl (by kernel_rfl) rfl rfl rfl) rfl (XW.rs 5 rfl (by kernel_rfl) rfl (RV.neA8_f rfl rfl rfl rfl rfl rfl (Vector.length_toList) rfl) rfl (XW.rs 6 rfl (by kernel_rfl) rfl (RV.move rfl) rfl (XW.rs 7 rfl (by kernel_rfl) rfl (RV.move rfl) rfl (XW.rs 8 rfl (by kernel_rfl) rfl (RV.move rfl) rfl (XW.rs 9 rfl (by kernel_rfl) rfl (RV.idx_rs (i) rfl rfl rfl rfl rfl hs0 (by omega)) rfl (XW.rs 10 rfl (by kernel_rfl) rfl (RV.field_at rfl rfl rfl rfl) rfl (XW.rs 11 rfl (by kernel_rfl) rfl (RV.load_at rfl rfl rfl (fun w m => v0.load_fld (hΦ w m) hcd (LogC.C_data _))) rfl (XW.rs 12 rfl (by kernel_rfl) rfl (RV.move rfl) rfl (XW.rs 13 rfl (by kernel_rfl) rfl (RV.move rfl) rfl (XW.rs 14 rfl (by kernel_rfl) rfl (RV.idx_rs (i) rfl rfl rfl rfl rfl hs1 (by omega)) rfl (XW.rs 15 rfl (by kernel_rfl) rfl (RV.field_at rfl rfl rfl rfl) rfl (XW.rs 16 rfl (by kernel_rfl) rfl (RV.load_at rfl rfl rfl (fun w m => va1.load_fld (hΦ w m) hcc (LogC.C_data _))) rfl ?_))))))))))))
  refine XW.callG 17 rfl (by kernel_rfl) rfl Tryd.call41 rfl (fun N' hN' => waybilllaw17_still_does w0 Φ N' (fun w m => hΦ w (hN' w m)) B2 (lx.data.length + 70) lx.data Ad cd lx.data true (by rw [List.length_append, List.length_replicate]; exact w2) vd hst) rfl ?_
  rintro _ G2 rfl
  refine XW.mem (M' := N) (fun w m => m.appR) (fun w m => m) (XW.rs 18 rfl (by kernel_rfl) rfl (RV.not rfl) rfl (XW.rs 19 rfl (by kernel_rfl) rfl (RV.pick_f rfl rfl rfl) rfl (XW.nil (by kernel_rfl) (QW.then_n (CW.cond_f rfl ?_)))))
  (refine CW.skip ?_; refine QW.block_n ?_; refine QW.then_n ?_)
  refine CW.region (OW.rv (RV.move rfl) rfl (OW.rv (RV.add rfl rfl (by omega)) rfl (OW.rv (RV.assign rfl) rfl (OW.nil ?_))))
  refine QW.againJ (k' := x.length - (i + 1)) (by omega) ⟨i + 1, rfl, by omega, rfl, rfl⟩ ⟨rfl, rfl, rfl, trivial⟩ (fun w m => m)
 ·(refine CW.exit ?_; refine QW.then_x ?_; refine QW.then_x ?_; refine QW.block_xe ?_; refine QW.then_n ?_; refine CW.seq ?_)
  refine CW.region (OW.rv (RV.assign rfl) rfl (OW.nil ?_))
  (refine QW.then_n ?_; refine CW.ret ?_)
  refine QW.retG (rs := [.tmp 4]) [.bool true] [] rfl ?_ rfl rfl (fun w m => m) _ (.inl rfl)
  exact ⟨rfl, trivial⟩
theorem waybilllaw17_ReceiptWrites_does (w0 : World) (Φ : Ctx) (N : List Ent) (hΦ : ∀ w, Mem w0 w N → Φ w) (cs0_ : List Value) (a0 : Rcpt) (res0 : Bool) (ha0 : RcptRd Φ cs0_ a0) (hTn : ∀ i, i < 25 → w0.cell? ⟨4, i, none⟩ = some (.int .i64 (turnsL.getD i 0))) (hRn : ∀ i, i < 24 → w0.cell? ⟨3, i, none⟩ = some (U64 (g64 roundsL i))) (hg2 : View Φ (some ⟨2, 0, none⟩) 2 2 1 (u8s firstL)) (hf : waybilllaw17_ReceiptWrites a0 = some res0) : DoesG Tryd.prog 7 [.agg cs0_.toArray] w0 [] N (fun v G => v = .bool res0) := by
 unfold waybilllaw17_ReceiptWrites at hf
 replace hg2 := hg2.mono (Ψ := More w0 Φ []) (fun w q => q.1)
 replace ha0 := RcptRd.mono (Ψ := More w0 Φ []) (fun w q => q.1) _ _ ha0
 have h8 := ha0
 obtain ⟨A2, c3, cs5, e7, b1, v4, h6⟩ := RcptRd.opn ha0
 subst e7
 have m9 := v4.mx
 refine DoesG.enter Tryd.func7 rfl Tryd.ntmps7 rfl (M := (([] ++ N))) rfl (CW.seq (CW.region (OW.boxA rfl rfl (fun b10 => (OW.rv (RV.assign rfl) rfl (OW.nil (QW.then_n (CW.seq (CW.region (OW.rv (RV.loadW rfl (List.Mem.head _) rfl rfl rfl rfl (RcptC.C_length _)) rfl (OW.alloc (l := (⟨(0 : Int), false, (Vector.replicate 32 0#8), 0#64, 0#64, (Vector.replicate 256 0#8), .slice none 0 0⟩ : RcptC).C) rfl (by kernel_rfl) rfl (fun b11 => (OW.sv (SV.storeW rfl rfl rfl (RcptC.C_one _ rfl) rfl (RcptC.C_length _) (RcptC.C_length _)) (OW.nil (QW.then_n (CW.seq (CW.region (OW.rv (RV.field rfl rfl rfl rfl) rfl (OW.slot (ptr (some b10) 292) rfl (OW.rv (RV.load rfl (List.Mem.tail _ (List.Mem.head _)) rfl rfl rfl (RcptC.C_logs (⟨a0.kind, (a0.rooted), a0.root, a0.status, a0.used, a0.bloom, .slice A2 a0.logs.length c3⟩ : RcptC))) rfl ?_))))))))))))))))))))
 obtain ⟨x13, hx12, hf⟩ := some_bind hf
 refine OW.callG Tryd.call18 rfl (waybilllaw17_twin_does w0  (More w0 Φ []) ((some b11, blk (⟨a0.kind, (a0.rooted), a0.root, a0.status, a0.used, a0.bloom, .slice A2 a0.logs.length c3⟩ : RcptC).C 30) :: (some b10, blk (⟨a0.kind, (a0.rooted), a0.root, a0.status, a0.used, a0.bloom, .slice A2 a0.logs.length c3⟩ : RcptC).C 30) :: ([] ++ N)) (fun w m => More.of hΦ 2 m rfl) A2 c3 cs5 a0.logs x13 v4 h6 hx12) rfl rfl ?_
 rintro L18 M19 ⟨B14, A15, c16, v17, e20, e21⟩
 rw [e20, e21]
 clear e20 e21 L18 M19
 refine OW.mem (M' := ((some b11, blk (⟨a0.kind, (a0.rooted), a0.root, a0.status, a0.used, a0.bloom, .slice A2 a0.logs.length c3⟩ : RcptC).C 30) :: (some b10, blk (⟨a0.kind, (a0.rooted), a0.root, a0.status, a0.used, a0.bloom, .slice A2 a0.logs.length c3⟩ : RcptC).C 30) :: ((B14 ++ []) ++ N))) (fun w m => by have h := Mem.sinkAt (A := B14) m 0 2 rfl rfl; exact h) ?_
 have gq1 : ∀ w, More w0 Φ (B14 ++ []) w → More w0 Φ [] w := fun w q => More.mono (fun w m => (m).appR) q
 replace h8 := RcptRd.mono gq1 _ _ h8
 replace v4 := v4.mono gq1
 replace h6 := h6.mono (LogRd.mono gq1)
 replace hg2 := hg2.mono gq1
 replace v17 := v17.mono (Ψ := (More w0 Φ (B14 ++ []))) (fun w q => More.flat q)
 obtain ⟨cs22, v23, v24, h25⟩ := LRooms.opn v17
 have h26 : Reps (LogRd (More w0 Φ (B14 ++ []))) cs22 x13 := h25.mono LmRd.log
 clear h25 v23
 have m27 := v24.mx
 have m28 := v24.mx
 refine OW.rv (RV.field rfl rfl rfl rfl) rfl (OW.slot (ptr (some b11) 292) rfl (OW.sv (SV.store rfl rfl rfl rfl rfl (by rw [RcptC.C_length]; omega)) (OW.cells (⟨a0.kind, (a0.rooted), a0.root, a0.status, a0.used, a0.bloom, .slice A15 x13.length c16⟩ : RcptC).C (RcptC.C_logs_set _ (.slice A15 x13.length c16)) (OW.nil (QW.then_n (CW.seq (CW.region (OW.rv (RV.loadW rfl (List.Mem.head _) rfl rfl rfl rfl (RcptC.C_length _)) rfl ?_))))))))
 have h29 : RcptRd (More w0 Φ (B14 ++ [])) (⟨a0.kind, (a0.rooted), a0.root, a0.status, a0.used, a0.bloom, .slice A15 x13.length c16⟩ : RcptC).C (Rcpt.mk a0.kind (a0.rooted) a0.root a0.status a0.used a0.bloom x13) := by refine RcptRd.mk ?_ v24 h26 <;> (first | omega | (dsimp only; omega)| (simp; done) | (show 0 ≤ 9223372036854775807; omega))
 obtain ⟨⟨x31, x32⟩, hx30, hf⟩ := some_bind hf
 try dsimp only at hf
 refine OW.callG Tryd.call33 rfl (receipt_Encode_does w0 (More w0 Φ (B14 ++ [])) ((some b11, blk (⟨a0.kind, (a0.rooted), a0.root, a0.status, a0.used, a0.bloom, .slice A15 x13.length c16⟩ : RcptC).C 30) :: (some b10, blk (⟨a0.kind, (a0.rooted), a0.root, a0.status, a0.used, a0.bloom, .slice A2 a0.logs.length c3⟩ : RcptC).C 30) :: ((B14 ++ []) ++ N)) (fun w m => More.of hΦ 2 m rfl) (⟨a0.kind, (a0.rooted), a0.root, a0.status, a0.used, a0.bloom, .slice A15 x13.length c16⟩ : RcptC).C (Rcpt.mk a0.kind (a0.rooted) a0.root a0.status a0.used a0.bloom x13) x31 x32 h29 hg2 hx30) rfl rfl ?_
 rintro L39 M40 ⟨B33, ob34, c35, r36, o37, b38, e41, e42⟩
 rw [e41, e42]
 clear e41 e42 L39 M40
 refine OW.mem (M' := ((ob34, blk ((u8s x31) ++ r36) 5) :: (some b11, blk (⟨a0.kind, (a0.rooted), a0.root, a0.status, a0.used, a0.bloom, .slice A15 x13.length c16⟩ : RcptC).C 30) :: (some b10, blk (⟨a0.kind, (a0.rooted), a0.root, a0.status, a0.used, a0.bloom, .slice A2 a0.logs.length c3⟩ : RcptC).C 30) :: ((B33 ++ (B14 ++ [])) ++ N))) (fun w m => by have h := Mem.sinkAt (A := B33) m 1 2 rfl rfl; exact h) ?_
 have gq2 : ∀ w, More w0 Φ (B33 ++ (B14 ++ [])) w → More w0 Φ (B14 ++ []) w := fun w q => More.mono (fun w m => (m).appR) q
 replace h8 := RcptRd.mono gq2 _ _ h8
 replace v4 := v4.mono gq2
 replace h6 := h6.mono (LogRd.mono gq2)
 replace v24 := v24.mono gq2
 replace h26 := h26.mono (LogRd.mono gq2)
 replace v17 := v17.mono gq2
 replace hg2 := hg2.mono gq2
 have m43 := o37.mx
 refine OW.rv (RV.move rfl) rfl (OW.rv (RV.extract rfl rfl) rfl (OW.slot (sl ob34 0 x31.length c35) (rfl) (OW.rv (RV.extract rfl rfl) rfl (OW.slot (.int .i64 ((x32 : Nat) : Int)) (rfl) (OW.rv (RV.assign rfl) rfl (OW.rv (RV.assign rfl) rfl (OW.nil (QW.then_n (CW.seq (CW.region (OW.rv (RV.loadW rfl (List.Mem.tail _ (List.Mem.head _)) rfl rfl rfl rfl (RcptC.C_length _)) rfl ?_)))))))))))
 have h44 : RcptRd (More w0 Φ (B33 ++ (B14 ++ []))) (⟨a0.kind, (a0.rooted), a0.root, a0.status, a0.used, a0.bloom, .slice A15 x13.length c16⟩ : RcptC).C (Rcpt.mk a0.kind (a0.rooted) a0.root a0.status a0.used a0.bloom x13) := by refine RcptRd.mk ?_ v24 h26 <;> (first | omega | (dsimp only; omega)| (simp; done) | (show 0 ≤ 9223372036854775807; omega))
 obtain ⟨⟨x46, x47⟩, hx45, hf⟩ := some_bind hf
 try dsimp only at hf
 refine OW.callG Tryd.call33 rfl (receipt_Encode_does w0 (More w0 Φ (B33 ++ (B14 ++ []))) ((ob34, blk ((u8s x31) ++ r36) 5) :: (some b11, blk (⟨a0.kind, (a0.rooted), a0.root, a0.status, a0.used, a0.bloom, .slice A15 x13.length c16⟩ : RcptC).C 30) :: (some b10, blk (⟨a0.kind, (a0.rooted), a0.root, a0.status, a0.used, a0.bloom, .slice A2 a0.logs.length c3⟩ : RcptC).C 30) :: ((B33 ++ (B14 ++ [])) ++ N)) (fun w m => More.of hΦ 3 m rfl) (⟨a0.kind, (a0.rooted), a0.root, a0.status, a0.used, a0.bloom, .slice A15 x13.length c16⟩ : RcptC).C (Rcpt.mk a0.kind (a0.rooted) a0.root a0.status a0.used a0.bloom x13) x46 x47 h44 hg2 hx45) rfl rfl ?_
 rintro L54 M55 ⟨B48, ob49, c50, r51, o52, b53, e56, e57⟩
 rw [e56, e57]
 clear e56 e57 L54 M55
 refine OW.mem (M' := ((ob49, blk ((u8s x46) ++ r51) 5) :: (ob34, blk ((u8s x31) ++ r36) 5) :: (some b11, blk (⟨a0.kind, (a0.rooted), a0.root, a0.status, a0.used, a0.bloom, .slice A15 x13.length c16⟩ : RcptC).C 30) :: (some b10, blk (⟨a0.kind, (a0.rooted), a0.root, a0.status, a0.used, a0.bloom, .slice A2 a0.logs.length c3⟩ : RcptC).C 30) :: ((B48 ++ (B33 ++ (B14 ++ []))) ++ N))) (fun w m => by have h := Mem.sinkAt (A := B48) m 1 3 rfl rfl; exact h) ?_
 have gq3 : ∀ w, More w0 Φ (B48 ++ (B33 ++ (B14 ++ []))) w → More w0 Φ (B33 ++ (B14 ++ [])) w := fun w q => More.mono (fun w m => (m).appR) q
 replace h8 := RcptRd.mono gq3 _ _ h8
 replace v4 := v4.mono gq3
 replace h6 := h6.mono (LogRd.mono gq3)
 replace v24 := v24.mono gq3
 replace h26 := h26.mono (LogRd.mono gq3)
 replace v17 := v17.mono gq3
 replace hg2 := hg2.mono gq3
 have m58 := o52.mx
 refine OW.rv (RV.move rfl) rfl (OW.rv (RV.extract rfl rfl) rfl (OW.slot (sl ob49 0 x46.length c50) (rfl) (OW.rv (RV.extract rfl rfl) rfl (OW.slot (.int .i64 ((x47 : Nat) : Int)) (rfl) (OW.rv (RV.assign rfl) rfl (OW.rv (RV.assign rfl) rfl (OW.nil (QW.then_n (CW.seq (CW.region (OW.rv (RV.loadW rfl (List.Mem.tail _ (List.Mem.tail _ (List.Mem.tail _ (List.Mem.head _)))) rfl rfl rfl rfl (RcptC.C_length _)) rfl ?_)))))))))))
 obtain ⟨⟨x60, x61⟩, hx59, hf⟩ := some_bind hf
 try dsimp only at hf
 refine OW.callG Tryd.call34 rfl (waybillref17_Encode_does w0 (More w0 Φ (B48 ++ (B33 ++ (B14 ++ [])))) ((ob49, blk ((u8s x46) ++ r51) 5) :: (ob34, blk ((u8s x31) ++ r36) 5) :: (some b11, blk (⟨a0.kind, (a0.rooted), a0.root, a0.status, a0.used, a0.bloom, .slice A15 x13.length c16⟩ : RcptC).C 30) :: (some b10, blk (⟨a0.kind, (a0.rooted), a0.root, a0.status, a0.used, a0.bloom, .slice A2 a0.logs.length c3⟩ : RcptC).C 30) :: ((B48 ++ (B33 ++ (B14 ++ []))) ++ N)) (fun w m => More.of hΦ 4 m rfl) (⟨a0.kind, (a0.rooted), a0.root, a0.status, a0.used, a0.bloom, .slice A2 a0.logs.length c3⟩ : RcptC).C a0 x60 x61 h8 hTn hRn hx59) rfl rfl ?_
 rintro L68 M69 ⟨B62, ob63, c64, r65, o66, b67, e70, e71⟩
 rw [e70, e71]
 clear e70 e71 L68 M69
 refine OW.mem (M' := ((ob63, blk ((u8s x60) ++ r65) 5) :: (ob49, blk ((u8s x46) ++ r51) 5) :: (ob34, blk ((u8s x31) ++ r36) 5) :: (some b11, blk (⟨a0.kind, (a0.rooted), a0.root, a0.status, a0.used, a0.bloom, .slice A15 x13.length c16⟩ : RcptC).C 30) :: (some b10, blk (⟨a0.kind, (a0.rooted), a0.root, a0.status, a0.used, a0.bloom, .slice A2 a0.logs.length c3⟩ : RcptC).C 30) :: ((B62 ++ (B48 ++ (B33 ++ (B14 ++ [])))) ++ N))) (fun w m => by have h := Mem.sinkAt (A := B62) m 1 4 rfl rfl; exact h) ?_
 have gq4 : ∀ w, More w0 Φ (B62 ++ (B48 ++ (B33 ++ (B14 ++ [])))) w → More w0 Φ (B48 ++ (B33 ++ (B14 ++ []))) w := fun w q => More.mono (fun w m => (m).appR) q
 replace h8 := RcptRd.mono gq4 _ _ h8
 replace v4 := v4.mono gq4
 replace h6 := h6.mono (LogRd.mono gq4)
 replace v24 := v24.mono gq4
 replace h26 := h26.mono (LogRd.mono gq4)
 replace v17 := v17.mono gq4
 replace hg2 := hg2.mono gq4
 have m72 := o66.mx
 refine OW.rv (RV.move rfl) rfl (OW.rv (RV.extract rfl rfl) rfl (OW.slot (sl ob63 0 x60.length c64) (rfl) (OW.rv (RV.extract rfl rfl) rfl (OW.slot (.int .i64 ((x61 : Nat) : Int)) (rfl) (OW.rv (RV.assign rfl) rfl (OW.rv (RV.assign rfl) rfl (OW.nil (QW.then_n (CW.seq (CW.seq ?_))))))))))
 obtain ⟨q73, hq74, hf⟩ := some_bind hf
 refine CW.cutJ (fun L' M' => ∃ p75 : Bool, q73 = p75 ∧ L' = [(1, ptr (some b10) 0), (3, ptr (some b11) 0), (4, sl ob34 0 x31.length c35), (6, sl ob49 0 x46.length c50), (8, sl ob63 0 x60.length c64), (64, .bool (p75))] ∧ M' = ((ob63, blk ((u8s x60) ++ r65) 5) :: (ob49, blk ((u8s x46) ++ r51) 5) :: (ob34, blk ((u8s x31) ++ r36) 5) :: (some b11, blk (⟨a0.kind, (a0.rooted), a0.root, a0.status, a0.used, a0.bloom, .slice A15 x13.length c16⟩ : RcptC).C 30) :: (some b10, blk (⟨a0.kind, (a0.rooted), a0.root, a0.status, a0.used, a0.bloom, .slice A2 a0.logs.length c3⟩ : RcptC).C 30) :: ((B62 ++ (B48 ++ (B33 ++ (B14 ++ [])))) ++ N))) ?_ ?_
 ·rintro L77 M78 ⟨p75, e76, e79, e80⟩
  rw [e79, e80]
  clear e79 e80 L77 M78
  clear hq74
  rw [e76] at hf
  clear e76
  try dsimp only at hf
  have m81 := o66.mx
  have m82 := o52.mx
  have m83 := o37.mx
  refine QW.then_n ?_
  by_cases h84 : p75 = true
  ·replace hf := if_t hf h84
   refine CW.is_t rfl (h84) (CW.seq (CW.region (OW.rv (RV.assign rfl) rfl (OW.nil (QW.then_n (CW.ret (QW.then_r ?_)))))))
   have e0 := Option.some.inj hf
   subst e0
   refine QW.retG (rs := [.tmp 2]) ([.bool false]) ((ob63, blk ((u8s x60) ++ r65) 5) :: (ob49, blk ((u8s x46) ++ r51) 5) :: (ob34, blk ((u8s x31) ++ r36) 5) :: (some b11, blk (⟨a0.kind, (a0.rooted), a0.root, a0.status, a0.used, a0.bloom, .slice A15 x13.length c16⟩ : RcptC).C 30) :: (some b10, blk (⟨a0.kind, (a0.rooted), a0.root, a0.status, a0.used, a0.bloom, .slice A2 a0.logs.length c3⟩ : RcptC).C 30) :: (B62 ++ (B48 ++ (B33 ++ (B14 ++ []))))) rfl ?_ rfl ?_ ?_ _ (.inl rfl)
   ·exact ⟨rfl, trivial⟩
   ·exact rfl
   ·exact (fun w m => m)
  ·replace hf := if_f hf h84
   refine CW.is_f rfl (Bool.eq_false_iff.2 h84) (CW.skip (QW.then_n (CW.seq (CW.seq (CW.region (OW.rv (RV.assign rfl) rfl (OW.nil (QW.then_n ?_))))))))
   obtain ⟨q85, hq86, hf⟩ := some_bind hf
   refine CW.cutJ (fun L' M' => ∃ l87 : List (BitVec 8), ∃ ob88 : Option Nat, ∃ c89 : Nat, ∃ r90 : List Value, q85 = l87 ∧ (OwnS ob88 l87.length c89 1 (u8s l87) r90) ∧ L' = [(1, ptr (some b10) 0), (3, ptr (some b11) 0), (4, sl ob88 0 l87.length c89), (6, sl ob49 0 x46.length c50), (8, sl ob63 0 x60.length c64)] ∧ M' = ((ob88, blk ((u8s l87) ++ r90) 5) :: (ob63, blk ((u8s x60) ++ r65) 5) :: (ob49, blk ((u8s x46) ++ r51) 5) :: (some b11, blk (⟨a0.kind, (a0.rooted), a0.root, a0.status, a0.used, a0.bloom, .slice A15 x13.length c16⟩ : RcptC).C 30) :: (some b10, blk (⟨a0.kind, (a0.rooted), a0.root, a0.status, a0.used, a0.bloom, .slice A2 a0.logs.length c3⟩ : RcptC).C 30) :: ((B62 ++ (B48 ++ (B33 ++ (B14 ++ [])))) ++ N))) ?_ ?_
   ·rintro L93 M94 ⟨l87, ob88, c89, r90, e92, o91, e95, e96⟩
    rw [e95, e96]
    clear e95 e96 L93 M94
    clear hq86
    rw [e92] at hf
    clear e92
    try dsimp only at hf
    have m97 := o91.mx
    have m98 := o66.mx
    have m99 := o52.mx
    refine QW.then_n (CW.seq (CW.region (OW.rv (RV.move rfl) rfl (OW.ofN (NV.bs1 rfl rfl rfl rfl rfl rfl) rfl (fun b100 => (OW.mem (M' := (((some b100), blk ((u8s ([2#8] : List (BitVec 8))) ++ []) 5) :: (ob88, blk ((u8s l87) ++ r90) 5) :: (ob63, blk ((u8s x60) ++ r65) 5) :: (ob49, blk ((u8s x46) ++ r51) 5) :: (some b11, blk (⟨a0.kind, (a0.rooted), a0.root, a0.status, a0.used, a0.bloom, .slice A15 x13.length c16⟩ : RcptC).C 30) :: (some b10, blk (⟨a0.kind, (a0.rooted), a0.root, a0.status, a0.used, a0.bloom, .slice A2 a0.logs.length c3⟩ : RcptC).C 30) :: ((B62 ++ (B48 ++ (B33 ++ (B14 ++ [])))) ++ N))) (fun w m => by first | exact m | simpa [u8s] using m) ?_))))))
    have o101 : OwnS (some b100) ([2#8] : List (BitVec 8)).length 1 1 (u8s ([2#8] : List (BitVec 8))) [] := ⟨by simp [u8s], by simp [u8s], (fun h => nomatch h), by simp⟩
    have mx_o101 := o101.mx
    refine OW.slot (sl (some b100) 0 ([2#8] : List (BitVec 8)).length 1) (rfl) (OW.rot1 ?_)
    obtain ⟨g102, hf⟩ := some_if hf
    refine OW.appendOwn (s := 1) rfl rfl rfl rfl rfl rfl o91 (fun w m => m.rd0 (List.Mem.tail _ (List.Mem.head _)) (fun e => o101.nilc (by decide) e)) o101.n (u8s_one _) (o101.zeroO (by decide)) (by decide) (by decide) (by first | omega | (simp only [i5, List.length_nil]; omega)) rfl rfl ((l87 ++ ([2#8] : List (BitVec 8))).length) (u8s (l87 ++ ([2#8] : List (BitVec 8)))) (List.length_append ..).symm (u8s_app _ _) (fun ob103 r104 c105 o106 => ?_)
    have m107 := o106.mx
    refine OW.rv (RV.assign rfl) rfl (OW.nil (QW.then_n (CW.seq (CW.seq (CW.region (OW.rv (RV.assign rfl) rfl (OW.nil (QW.then_n ?_))))))))
    obtain ⟨q108, hq109, hf⟩ := some_bind hf
    refine CW.cutJ (fun L' M' => ∃ l110 : List (BitVec 8), ∃ ob111 : Option Nat, ∃ c112 : Nat, ∃ r113 : List Value, q108 = l110 ∧ (OwnS ob111 l110.length c112 1 (u8s l110) r113) ∧ L' = [(1, ptr (some b10) 0), (3, ptr (some b11) 0), (4, sl ob88 0 l87.length c89), (6, sl ob49 0 x46.length c50), (8, sl ob63 0 x60.length c64), (11, sl ob111 0 l110.length c112)] ∧ M' = ((ob111, blk ((u8s l110) ++ r113) 5) :: (ob63, blk ((u8s x60) ++ r65) 5) :: (ob49, blk ((u8s x46) ++ r51) 5) :: (some b11, blk (⟨a0.kind, (a0.rooted), a0.root, a0.status, a0.used, a0.bloom, .slice A15 x13.length c16⟩ : RcptC).C 30) :: (some b10, blk (⟨a0.kind, (a0.rooted), a0.root, a0.status, a0.used, a0.bloom, .slice A2 a0.logs.length c3⟩ : RcptC).C 30) :: ((B62 ++ (B48 ++ (B33 ++ (B14 ++ [])))) ++ N))) ?_ ?_
    ·rintro L116 M117 ⟨l110, ob111, c112, r113, e115, o114, e118, e119⟩
     rw [e118, e119]
     clear e118 e119 L116 M117
     clear hq109
     rw [e115] at hf
     clear e115
     try dsimp only at hf
     have m120 := o114.mx
     have m121 := o66.mx
     have m122 := o52.mx
     refine QW.then_n (CW.seq ?_)
     obtain ⟨q123, hq124, hf⟩ := some_bind hf
     refine CW.cutJ (fun L' M' => ∃ p125 : Bool, q123 = p125 ∧ L' = [(2, .bool (p125))] ∧ M' = (((B62 ++ (B48 ++ (B33 ++ (B14 ++ [])))) ++ N))) ?_ ?_
     ·rintro L127 M128 ⟨p125, e126, e129, e130⟩
      rw [e129, e130]
      clear e129 e130 L127 M128
      clear hq124
      rw [e126] at hf
      clear e126
      try dsimp only at hf
      refine QW.then_n (CW.ret ?_)
      have e0 := Option.some.inj hf
      subst e0
      refine QW.retG (rs := [.tmp 2]) ([.bool (p125)]) ((B62 ++ (B48 ++ (B33 ++ (B14 ++ []))))) rfl ?_ rfl ?_ ?_ _ (.inl rfl)
      ·exact ⟨rfl, trivial⟩
      ·exact rfl
      ·exact (fun w m => m)
     ·skip
      refine CW.region (OW.rv (RV.move rfl) rfl (OW.rv (RV.move rfl) rfl ?_))
      obtain ⟨x132, hx131, hq124⟩ := some_bind hq124
      refine OW.callG Tryd.call35 rfl (waybilllaw17_same_does w0 (More w0 Φ ((ob49, blk ((u8s x46) ++ r51) 5) :: (ob63, blk ((u8s x60) ++ r65) 5) :: (B62 ++ (B48 ++ (B33 ++ (B14 ++ [])))))) ((ob111, blk ((u8s l110) ++ r113) 5) :: (ob63, blk ((u8s x60) ++ r65) 5) :: (ob49, blk ((u8s x46) ++ r51) 5) :: (some b11, blk (⟨a0.kind, (a0.rooted), a0.root, a0.status, a0.used, a0.bloom, .slice A15 x13.length c16⟩ : RcptC).C 30) :: (some b10, blk (⟨a0.kind, (a0.rooted), a0.root, a0.status, a0.used, a0.bloom, .slice A2 a0.logs.length c3⟩ : RcptC).C 30) :: ((B62 ++ (B48 ++ (B33 ++ (B14 ++ [])))) ++ N)) (fun w m => More.of hΦ 3 (m.pick [0, 3, 4, 2, 1] 5 rfl rfl) rfl) ((ob49).map fun k => ⟨k, 0, none⟩) c50 x46 ((ob63).map fun k => ⟨k, 0, none⟩) c64 x60 x132 (o52.view (by decide) (fun w q => q.2.sublist (List.singleton_sublist.2 (List.mem_cons_self ..)))) (o66.view (by decide) (fun w q => q.2.sublist (List.singleton_sublist.2 (List.mem_cons_of_mem _ (List.mem_cons_self ..))))) hx131) rfl rfl ?_
      rintro _ G133 rfl
      refine OW.mem (M' := ((ob111, blk ((u8s l110) ++ r113) 5) :: (ob63, blk ((u8s x60) ++ r65) 5) :: (ob49, blk ((u8s x46) ++ r51) 5) :: (some b11, blk (⟨a0.kind, (a0.rooted), a0.root, a0.status, a0.used, a0.bloom, .slice A15 x13.length c16⟩ : RcptC).C 30) :: (some b10, blk (⟨a0.kind, (a0.rooted), a0.root, a0.status, a0.used, a0.bloom, .slice A2 a0.logs.length c3⟩ : RcptC).C 30) :: ((B62 ++ (B48 ++ (B33 ++ (B14 ++ [])))) ++ N))) (fun w m => m.appR) (OW.rv (RV.move rfl) rfl ?_)
      by_cases h135 : x132 = true
      ·replace hq124 := if_t hq124 h135
       refine OW.slot (.bool true) (congrArg Value.bool (h135)) (OW.want rfl (OW.rv (RV.move rfl) rfl (OW.want rfl (OW.rv (RV.len rfl rfl) rfl (OW.want rfl (OW.rv (RV.move rfl) rfl (OW.want rfl (OW.rv (RV.len rfl rfl) rfl (OW.want rfl (OW.rv (RV.add rfl rfl (by omega)) rfl (OW.slot (.int .i64 (((l87.length + 100) : Nat) : Int)) (by first | rfl | (congr 1) | (congr 1; omega)) (OW.want rfl (OW.rv (RV.eql rfl rfl) rfl (OW.slot (.bool (decide (l110.length = (l87.length + 100)))) (congrArg Value.bool (decide_eq_decide.2 (by omega))) (OW.rv (RV.pick_t rfl rfl rfl) rfl (OW.rv (RV.move rfl) rfl ?_))))))))))))))))
       by_cases h136 : l110.length = (l87.length + 100)
       ·replace hq124 := if_t hq124 h136
        refine OW.slot (.bool true) (congrArg Value.bool (decide_eq_true h136)) (OW.want rfl (OW.rv (RV.field rfl rfl rfl rfl) rfl (OW.slot (ptr (some b11) 292) rfl (OW.want rfl (OW.rv (RV.load rfl (List.Mem.tail _ (List.Mem.tail _ (List.Mem.tail _ (List.Mem.head _)))) rfl rfl rfl (RcptC.C_logs (⟨a0.kind, (a0.rooted), a0.root, a0.status, a0.used, a0.bloom, .slice A15 x13.length c16⟩ : RcptC))) rfl (OW.want rfl (OW.rv (RV.field rfl rfl rfl rfl) rfl (OW.slot (ptr (some b10) 292) rfl (OW.want rfl (OW.rv (RV.load rfl (List.Mem.tail _ (List.Mem.tail _ (List.Mem.tail _ (List.Mem.tail _ (List.Mem.head _))))) rfl rfl rfl (RcptC.C_logs (⟨a0.kind, (a0.rooted), a0.root, a0.status, a0.used, a0.bloom, .slice A2 a0.logs.length c3⟩ : RcptC))) rfl (OW.want rfl ?_)))))))))))
        obtain ⟨x138, hx137, hq124⟩ := some_bind hq124
        refine OW.callG Tryd.call24 rfl (waybilllaw17_stillLogs_does w0 (More w0 Φ (B62 ++ (B48 ++ (B33 ++ (B14 ++ []))))) ((ob111, blk ((u8s l110) ++ r113) 5) :: (ob63, blk ((u8s x60) ++ r65) 5) :: (ob49, blk ((u8s x46) ++ r51) 5) :: (some b11, blk (⟨a0.kind, (a0.rooted), a0.root, a0.status, a0.used, a0.bloom, .slice A15 x13.length c16⟩ : RcptC).C 30) :: (some b10, blk (⟨a0.kind, (a0.rooted), a0.root, a0.status, a0.used, a0.bloom, .slice A2 a0.logs.length c3⟩ : RcptC).C 30) :: ((B62 ++ (B48 ++ (B33 ++ (B14 ++ [])))) ++ N)) (fun w m => More.of hΦ 5 m rfl) A15 c16 x13 A2 c3 cs5 a0.logs x138 v17 v4 h6 hx137) rfl rfl ?_
        rintro _ G139 rfl
        refine OW.mem (M' := ((ob111, blk ((u8s l110) ++ r113) 5) :: (ob63, blk ((u8s x60) ++ r65) 5) :: (ob49, blk ((u8s x46) ++ r51) 5) :: (some b11, blk (⟨a0.kind, (a0.rooted), a0.root, a0.status, a0.used, a0.bloom, .slice A15 x13.length c16⟩ : RcptC).C 30) :: (some b10, blk (⟨a0.kind, (a0.rooted), a0.root, a0.status, a0.used, a0.bloom, .slice A2 a0.logs.length c3⟩ : RcptC).C 30) :: ((B62 ++ (B48 ++ (B33 ++ (B14 ++ [])))) ++ N))) (fun w m => m.appR) (OW.rv (RV.pick_t rfl rfl rfl) rfl (OW.rv (RV.assign rfl) rfl (OW.nil ?_)))
        exact QW.join ⟨(x138), (Option.some.inj hq124).symm, rfl, rfl⟩ ⟨rfl, trivial⟩ (fun w m => m.pick [] 5 rfl rfl)
       ·replace hq124 := if_f hq124 h136
        refine OW.slot (.bool false) (congrArg Value.bool (decide_eq_false h136)) (OW.skip rfl rfl rfl (OW.skip rfl rfl rfl (OW.skip rfl rfl rfl (OW.skip rfl rfl rfl (OW.skip rfl rfl rfl (OW.rv (RV.pick_f rfl rfl rfl) rfl (OW.rv (RV.assign rfl) rfl (OW.nil ?_))))))))
        exact QW.join ⟨false, (Option.some.inj hq124).symm, rfl, rfl⟩ ⟨rfl, trivial⟩ (fun w m => m.pick [] 5 rfl rfl)
      ·replace hq124 := if_f hq124 h135
       refine OW.slot (.bool false) (congrArg Value.bool (Bool.eq_false_iff.2 h135)) (OW.skip rfl rfl rfl (OW.skip rfl rfl rfl (OW.skip rfl rfl rfl (OW.skip rfl rfl rfl (OW.skip rfl rfl rfl (OW.skip rfl rfl rfl (OW.rv (RV.pick_f rfl rfl rfl) rfl (OW.rv (RV.move rfl) rfl (OW.skip rfl rfl rfl (OW.skip rfl rfl rfl (OW.skip rfl rfl rfl (OW.skip rfl rfl rfl (OW.skip rfl rfl rfl (OW.rv (RV.pick_f rfl rfl rfl) rfl (OW.rv (RV.assign rfl) rfl (OW.nil ?_))))))))))))))))
       exact QW.join ⟨false, (Option.some.inj hq124).symm, rfl, rfl⟩ ⟨rfl, trivial⟩ (fun w m => m.pick [] 5 rfl rfl)
    ·skip
     refine CW.block (CW.loopJ (fun k L' M' => ∃ l141 : List (BitVec 8), ∃ n146 : Nat, ∃ ob142 : Option Nat, ∃ c143 : Nat, ∃ r144 : List Value, (waybilllaw17_ReceiptWrites.l1 k l141 n146) = some q108 ∧ (OwnS ob142 l141.length c143 1 (u8s l141) r144) ∧ (n146 ≤ 9223372036854775807) ∧ L' = [(1, ptr (some b10) 0), (3, ptr (some b11) 0), (4, sl ob88 0 l87.length c89), (6, sl ob49 0 x46.length c50), (8, sl ob63 0 x60.length c64), (11, sl ob142 0 l141.length c143), (12, .int .i64 ((n146 : Nat) : Int))] ∧ M' = ((ob142, blk ((u8s l141) ++ r144) 5) :: (ob63, blk ((u8s x60) ++ r65) 5) :: (ob49, blk ((u8s x46) ++ r51) 5) :: (some b11, blk (⟨a0.kind, (a0.rooted), a0.root, a0.status, a0.used, a0.bloom, .slice A15 x13.length c16⟩ : RcptC).C 30) :: (some b10, blk (⟨a0.kind, (a0.rooted), a0.root, a0.status, a0.used, a0.bloom, .slice A2 a0.logs.length c3⟩ : RcptC).C 30) :: ((B62 ++ (B48 ++ (B33 ++ (B14 ++ [])))) ++ N))) (k0 := (99 - 0 + 2)) ⟨(l87 ++ ([2#8] : List (BitVec 8))), 0, ob103, c105, r104, hq109, o106, (by omega), rfl, rfl⟩ ⟨rfl, rfl, rfl, rfl, rfl, rfl, rfl, trivial⟩ (fun w m => m.pick [0, 2, 3, 4, 5] 6 rfl rfl) ?_)
     clear hq109
     rintro k148 L151 M152 ⟨l141, n146, ob142, c143, r144, hl149, o145, b147, e153, e154⟩
     rw [e153, e154]
     clear e153 e154 L151 M152
     rcases k148 with _ | k148
     ·rw [waybilllaw17_ReceiptWrites.l1] at hl149; cases hl149
     rw [waybilllaw17_ReceiptWrites.l1] at hl149
     have m155 := o145.mx
     have m156 := o66.mx
     have m157 := o52.mx
     refine CW.seq (CW.seq (CW.region (OW.rv (RV.move rfl) rfl (OW.rv (RV.lss rfl rfl) rfl (OW.slot (.bool (decide (n146 < 99))) (congrArg Value.bool (decide_eq_decide.2 (by omega))) (OW.nil (QW.then_n ?_)))))))
     by_cases h158 : n146 < 99
     ·replace hl149 := if_t hl149 h158
      refine CW.is_t rfl (decide_eq_true h158) (CW.skip (QW.then_n (CW.seq (CW.block (CW.region (OW.rv (RV.move rfl) rfl (OW.ofN (NV.bs1 rfl rfl rfl rfl rfl rfl) rfl (fun b159 => (OW.mem (M' := (((some b159), blk ((u8s ([2#8] : List (BitVec 8))) ++ []) 5) :: (ob142, blk ((u8s l141) ++ r144) 5) :: (ob63, blk ((u8s x60) ++ r65) 5) :: (ob49, blk ((u8s x46) ++ r51) 5) :: (some b11, blk (⟨a0.kind, (a0.rooted), a0.root, a0.status, a0.used, a0.bloom, .slice A15 x13.length c16⟩ : RcptC).C 30) :: (some b10, blk (⟨a0.kind, (a0.rooted), a0.root, a0.status, a0.used, a0.bloom, .slice A2 a0.logs.length c3⟩ : RcptC).C 30) :: ((B62 ++ (B48 ++ (B33 ++ (B14 ++ [])))) ++ N))) (fun w m => by first | exact m | simpa [u8s] using m) ?_)))))))))
      have o160 : OwnS (some b159) ([2#8] : List (BitVec 8)).length 1 1 (u8s ([2#8] : List (BitVec 8))) [] := ⟨by simp [u8s], by simp [u8s], (fun h => nomatch h), by simp⟩
      have mx_o160 := o160.mx
      refine OW.slot (sl (some b159) 0 ([2#8] : List (BitVec 8)).length 1) (rfl) (OW.rot1 ?_)
      obtain ⟨g161, hl149⟩ := some_if hl149
      refine OW.appendOwn (s := 1) rfl rfl rfl rfl rfl rfl o145 (fun w m => m.rd0 (List.Mem.tail _ (List.Mem.head _)) (fun e => o160.nilc (by decide) e)) o160.n (u8s_one _) (o160.zeroO (by decide)) (by decide) (by decide) (by first | omega | (simp only [i5, List.length_nil]; omega)) rfl rfl ((l141 ++ ([2#8] : List (BitVec 8))).length) (u8s (l141 ++ ([2#8] : List (BitVec 8)))) (List.length_append ..).symm (u8s_app _ _) (fun ob162 r163 c164 o165 => ?_)
      have m166 := o165.mx
      refine OW.rv (RV.assign rfl) rfl (OW.nil (QW.block_n (QW.then_n (CW.region (OW.rv (RV.move rfl) rfl (OW.rv (RV.add rfl rfl (by omega)) rfl (OW.slot (.int .i64 (((n146 + 1) : Nat) : Int)) (by first | rfl | (congr 1) | (congr 1; omega)) (OW.rv (RV.assign rfl) rfl (OW.nil ?_)))))))))
      exact QW.againJ (k' := k148) (Nat.lt_succ_self _) ⟨(l141 ++ ([2#8] : List (BitVec 8))), (n146 + 1), ob162, c164, r163, hl149, o165, (by omega), rfl, rfl⟩ ⟨rfl, rfl, rfl, rfl, rfl, rfl, rfl, trivial⟩ (fun w m => m.pick [0, 2, 3, 4, 5] 6 rfl rfl)
     ·replace hl149 := if_f hl149 h158
      refine CW.is_f rfl (decide_eq_false h158) (CW.exit (QW.then_x (QW.then_x (QW.block_xe ?_))))
      exact QW.join ⟨l141, ob142, c143, r144, (Option.some.inj hl149).symm, o145, rfl, rfl⟩ ⟨rfl, rfl, rfl, rfl, rfl, rfl, trivial⟩ (fun w m => m.pick [0, 1, 2, 3, 4] 5 rfl rfl)
   ·skip
    refine CW.block (CW.loopJ (fun k L' M' => ∃ l167 : List (BitVec 8), ∃ n172 : Nat, ∃ ob168 : Option Nat, ∃ c169 : Nat, ∃ r170 : List Value, (waybilllaw17_ReceiptWrites.l2 k l167 n172) = some q85 ∧ (OwnS ob168 l167.length c169 1 (u8s l167) r170) ∧ (n172 ≤ 9223372036854775807) ∧ L' = [(1, ptr (some b10) 0), (3, ptr (some b11) 0), (4, sl ob168 0 l167.length c169), (6, sl ob49 0 x46.length c50), (8, sl ob63 0 x60.length c64), (10, .int .i64 ((n172 : Nat) : Int))] ∧ M' = ((ob168, blk ((u8s l167) ++ r170) 5) :: (ob63, blk ((u8s x60) ++ r65) 5) :: (ob49, blk ((u8s x46) ++ r51) 5) :: (some b11, blk (⟨a0.kind, (a0.rooted), a0.root, a0.status, a0.used, a0.bloom, .slice A15 x13.length c16⟩ : RcptC).C 30) :: (some b10, blk (⟨a0.kind, (a0.rooted), a0.root, a0.status, a0.used, a0.bloom, .slice A2 a0.logs.length c3⟩ : RcptC).C 30) :: ((B62 ++ (B48 ++ (B33 ++ (B14 ++ [])))) ++ N))) (k0 := (x31.length - 0 + 2)) ⟨x31, 0, ob34, c35, r36, hq86, o37, (by omega), rfl, rfl⟩ ⟨rfl, rfl, rfl, rfl, rfl, rfl, trivial⟩ (fun w m => m.pick [2, 0, 1, 3, 4] 5 rfl rfl) ?_)
    clear hq86
    rintro k174 L177 M178 ⟨l167, n172, ob168, c169, r170, hl175, o171, b173, e179, e180⟩
    rw [e179, e180]
    clear e179 e180 L177 M178
    rcases k174 with _ | k174
    ·rw [waybilllaw17_ReceiptWrites.l2] at hl175; cases hl175
    rw [waybilllaw17_ReceiptWrites.l2] at hl175
    have m181 := o171.mx
    have m182 := o66.mx
    have m183 := o52.mx
    refine CW.seq (CW.seq (CW.region (OW.rv (RV.move rfl) rfl (OW.rv (RV.move rfl) rfl (OW.rv (RV.len rfl rfl) rfl (OW.rv (RV.lss rfl rfl) rfl (OW.slot (.bool (decide (n172 < l167.length))) (congrArg Value.bool (decide_eq_decide.2 (by omega))) (OW.nil (QW.then_n ?_)))))))))
    by_cases h184 : n172 < l167.length
    ·replace hl175 := if_t hl175 h184
     refine CW.is_t rfl (decide_eq_true h184) (CW.skip (QW.then_n (CW.seq (CW.block (CW.region (OW.rv (RV.move rfl) rfl (OW.rv (RV.move rfl) rfl ?_)))))))
     obtain ⟨x185, hx186, hl175⟩ := some_bind hl175
     have hl187 := lt_of_at hx186
     refine OW.rv (RV.idx_o (n172) rfl rfl rfl rfl rfl (o171.isSome (by decide) hl187) (by omega)) rfl (OW.sv (SV.store rfl (o171.isSome (by decide) hl187) rfl rfl rfl (by rw [List.length_append, u8s_length]; omega)) ?_)
     refine OW.cells ((u8s (l167.set n172 (1#8))) ++ r170) (by rw [Nat.zero_add, List.set_append_left _ _ (by rw [u8s_length]; omega)]; first | rw [u8s_set'] | (rw [← u8s_set']; rfl)) ?_
     have o188 : OwnS ob168 (l167.set n172 (1#8)).length c169 1 (u8s (l167.set n172 (1#8))) r170 := OwnS.same o171 (by simp) (by simp)
     refine OW.frame (L' := [(1, ptr (some b10) 0), (3, ptr (some b11) 0), (4, sl ob168 0 (l167.set n172 (1#8)).length c169), (6, sl ob49 0 x46.length c50), (8, sl ob63 0 x60.length c64), (10, .int .i64 ((n172 : Nat) : Int)), (65, .int .i64 ((n172 : Nat) : Int)), (66, sl ob168 0 (l167.set n172 (1#8)).length c169), (67, .int .i64 ((l167.length : Nat) : Int)), (68, .bool (decide (n172 < l167.length))), (71, sl ob168 0 (l167.set n172 (1#8)).length c169), (72, .int .i64 ((n172 : Nat) : Int))]) (fun k v h => Sub.get (L' := [(1, ptr (some b10) 0), (3, ptr (some b11) 0), (4, sl ob168 0 (l167.set n172 (1#8)).length c169), (6, sl ob49 0 x46.length c50), (8, sl ob63 0 x60.length c64), (10, .int .i64 ((n172 : Nat) : Int)), (65, .int .i64 ((n172 : Nat) : Int)), (66, sl ob168 0 (l167.set n172 (1#8)).length c169), (67, .int .i64 ((l167.length : Nat) : Int)), (68, .bool (decide (n172 < l167.length))), (71, sl ob168 0 (l167.set n172 (1#8)).length c169), (72, .int .i64 ((n172 : Nat) : Int))]) ?_ k v h) ?_
     ·exact ⟨rfl, rfl, (congrArg (fun k => some (sl ob168 0 k c169)) (List.length_set ..).symm), rfl, rfl, rfl, rfl, (congrArg (fun k => some (sl ob168 0 k c169)) (List.length_set ..).symm), rfl, rfl, (congrArg (fun k => some (sl ob168 0 k c169)) (List.length_set ..).symm), rfl, trivial⟩
     refine OW.nil (QW.block_n (QW.then_n (CW.region (OW.rv (RV.move rfl) rfl (OW.rv (RV.add rfl rfl (by omega)) rfl (OW.slot (.int .i64 (((n172 + 1) : Nat) : Int)) (by first | rfl | (congr 1) | (congr 1; omega)) (OW.rv (RV.assign rfl) rfl (OW.nil ?_))))))))
     exact QW.againJ (k' := k174) (Nat.lt_succ_self _) ⟨(l167.set n172 (1#8)), (n172 + 1), ob168, c169, r170, hl175, o188, (by omega), rfl, rfl⟩ ⟨rfl, rfl, rfl, rfl, rfl, rfl, trivial⟩ (fun w m => m.pick [0, 1, 2, 3, 4] 5 rfl rfl)
    ·replace hl175 := if_f hl175 h184
     refine CW.is_f rfl (decide_eq_false h184) (CW.exit (QW.then_x (QW.then_x (QW.block_xe ?_))))
     exact QW.join ⟨l167, ob168, c169, r170, (Option.some.inj hl175).symm, o171, rfl, rfl⟩ ⟨rfl, rfl, rfl, rfl, rfl, trivial⟩ (fun w m => m.pick [0, 1, 2, 3, 4] 5 rfl rfl)
 ·skip
  refine CW.drawsU 32 mixed (by kernel_rfl) rfl (UW.rv 0 rfl (by kernel_rfl) rfl (RV.move rfl) rfl (UW.rv 1 rfl (by kernel_rfl) rfl (RV.move rfl) rfl ?_))
  obtain ⟨x190, hx189, hq74⟩ := some_bind hq74
  refine UW.callG 2 rfl (by kernel_rfl) rfl Tryd.call35 rfl (fun N' hN' => waybilllaw17_same_does w0 (More w0 Φ ((ob34, blk ((u8s x31) ++ r36) 5) :: (ob63, blk ((u8s x60) ++ r65) 5) :: (B62 ++ (B48 ++ (B33 ++ (B14 ++ [])))))) N' (fun w m => More.of hΦ 3 ((hN' w m).pick [1, 3, 4, 2, 0] 5 rfl rfl) rfl) ((ob34).map fun k => ⟨k, 0, none⟩) c35 x31 ((ob63).map fun k => ⟨k, 0, none⟩) c64 x60 x190 (o37.view (by decide) (fun w q => q.2.sublist (List.singleton_sublist.2 (List.mem_cons_self ..)))) (o66.view (by decide) (fun w q => q.2.sublist (List.singleton_sublist.2 (List.mem_cons_of_mem _ (List.mem_cons_self ..))))) hx189) rfl ?_
  rintro _ G191 rfl
  refine UW.mem (M' := ((ob63, blk ((u8s x60) ++ r65) 5) :: (ob49, blk ((u8s x46) ++ r51) 5) :: (ob34, blk ((u8s x31) ++ r36) 5) :: (some b11, blk (⟨a0.kind, (a0.rooted), a0.root, a0.status, a0.used, a0.bloom, .slice A15 x13.length c16⟩ : RcptC).C 30) :: (some b10, blk (⟨a0.kind, (a0.rooted), a0.root, a0.status, a0.used, a0.bloom, .slice A2 a0.logs.length c3⟩ : RcptC).C 30) :: ((B62 ++ (B48 ++ (B33 ++ (B14 ++ [])))) ++ N))) (fun w m => m.appR) (UW.rv 3 rfl (by kernel_rfl) rfl (RV.not rfl) rfl (UW.rv 4 rfl (by kernel_rfl) rfl (RV.move rfl) rfl ?_))
  by_cases h193 : x190 = true
  ·replace hq74 := if_t hq74 h193
   refine UW.slot (.bool false) (congrArg Value.bool (congrArg (fun b => !b) (h193))) (UW.rv 5 rfl (by kernel_rfl) rfl (RV.move rfl) rfl (UW.rv 6 rfl (by kernel_rfl) rfl (RV.move rfl) rfl ?_))
   obtain ⟨x195, hx194, hq74⟩ := some_bind hq74
   refine UW.callG 7 rfl (by kernel_rfl) rfl Tryd.call35 rfl (fun N' hN' => waybilllaw17_same_does w0 (More w0 Φ ((ob49, blk ((u8s x46) ++ r51) 5) :: (ob63, blk ((u8s x60) ++ r65) 5) :: (B62 ++ (B48 ++ (B33 ++ (B14 ++ [])))))) N' (fun w m => More.of hΦ 3 ((hN' w m).pick [2, 3, 4, 1, 0] 5 rfl rfl) rfl) ((ob49).map fun k => ⟨k, 0, none⟩) c50 x46 ((ob63).map fun k => ⟨k, 0, none⟩) c64 x60 x195 (o52.view (by decide) (fun w q => q.2.sublist (List.singleton_sublist.2 (List.mem_cons_self ..)))) (o66.view (by decide) (fun w q => q.2.sublist (List.singleton_sublist.2 (List.mem_cons_of_mem _ (List.mem_cons_self ..))))) hx194) rfl ?_
   rintro _ G196 rfl
   refine UW.mem (M' := ((ob63, blk ((u8s x60) ++ r65) 5) :: (ob49, blk ((u8s x46) ++ r51) 5) :: (ob34, blk ((u8s x31) ++ r36) 5) :: (some b11, blk (⟨a0.kind, (a0.rooted), a0.root, a0.status, a0.used, a0.bloom, .slice A15 x13.length c16⟩ : RcptC).C 30) :: (some b10, blk (⟨a0.kind, (a0.rooted), a0.root, a0.status, a0.used, a0.bloom, .slice A2 a0.logs.length c3⟩ : RcptC).C 30) :: ((B62 ++ (B48 ++ (B33 ++ (B14 ++ [])))) ++ N))) (fun w m => m.appR) (UW.rv 8 rfl (by kernel_rfl) rfl (RV.not rfl) rfl (UW.rv 9 rfl (by kernel_rfl) rfl (RV.pick_f rfl rfl rfl) rfl (UW.rv 10 rfl (by kernel_rfl) rfl (RV.move rfl) rfl ?_)))
   by_cases h198 : x195 = true
   ·replace hq74 := if_t hq74 h198
    refine UW.slot (.bool false) (congrArg Value.bool (congrArg (fun b => !b) (h198))) (UW.rv 11 rfl (by kernel_rfl) rfl (RV.move rfl) rfl (UW.rv 13 rfl (by kernel_rfl) rfl (RV.move rfl) rfl ?_))
    obtain ⟨x200, hx199, hq74⟩ := some_bind hq74
    refine UW.callG 12 rfl (by kernel_rfl) rfl Tryd.call15 rfl (fun N' hN' => waybilllaw17_num_does w0 (More w0 Φ (B62 ++ (B48 ++ (B33 ++ (B14 ++ []))))) N' (fun w m => More.of hΦ 5 (hN' w m) rfl) ((x32 : Nat) : Int) x200 (by omega) hx199) rfl ?_
    rintro _ G202 ⟨b201, rfl⟩
    refine UW.mem (M' := ((ob63, blk ((u8s x60) ++ r65) 5) :: (ob49, blk ((u8s x46) ++ r51) 5) :: (ob34, blk ((u8s x31) ++ r36) 5) :: (some b11, blk (⟨a0.kind, (a0.rooted), a0.root, a0.status, a0.used, a0.bloom, .slice A15 x13.length c16⟩ : RcptC).C 30) :: (some b10, blk (⟨a0.kind, (a0.rooted), a0.root, a0.status, a0.used, a0.bloom, .slice A2 a0.logs.length c3⟩ : RcptC).C 30) :: ((B62 ++ (B48 ++ (B33 ++ (B14 ++ [])))) ++ N))) (fun w m => m.appR) (UW.rv 14 rfl (by kernel_rfl) rfl (RV.neq rfl rfl) rfl (UW.rv 15 rfl (by kernel_rfl) rfl (RV.pick_f rfl rfl rfl) rfl (UW.rv 16 rfl (by kernel_rfl) rfl (RV.move rfl) rfl ?_)))
    by_cases h204 : x200 = ((x61 : Nat) : Int)
    ·replace hq74 := if_t hq74 h204
     refine UW.slot (.bool false) (congrArg Value.bool (congrArg (fun b => !b) (decide_eq_true h204))) (UW.rv 17 rfl (by kernel_rfl) rfl (RV.loadW rfl (List.Mem.tail _ (List.Mem.tail _ (List.Mem.tail _ (List.Mem.head _)))) rfl rfl rfl rfl (RcptC.C_length _)) rfl (UW.rv 20 rfl (by kernel_rfl) rfl (RV.loadW rfl (List.Mem.tail _ (List.Mem.tail _ (List.Mem.tail _ (List.Mem.tail _ (List.Mem.head _))))) rfl rfl rfl rfl (RcptC.C_length _)) rfl ?_))
     have h205 : RcptRd (More w0 Φ (B62 ++ (B48 ++ (B33 ++ (B14 ++ []))))) (⟨a0.kind, (a0.rooted), a0.root, a0.status, a0.used, a0.bloom, .slice A15 x13.length c16⟩ : RcptC).C (Rcpt.mk a0.kind (a0.rooted) a0.root a0.status a0.used a0.bloom x13) := by refine RcptRd.mk ?_ v24 h26 <;> (first | omega | (dsimp only; omega)| (simp; done) | (show 0 ≤ 9223372036854775807; omega))
     obtain ⟨x207, hx206, hq74⟩ := some_bind hq74
     refine UW.callG 18 rfl (by kernel_rfl) rfl Tryd.call36 rfl (fun N' hN' => receipt_Check_does w0 (More w0 Φ (B62 ++ (B48 ++ (B33 ++ (B14 ++ []))))) N' (fun w m => More.of hΦ 5 (hN' w m) rfl) (⟨a0.kind, (a0.rooted), a0.root, a0.status, a0.used, a0.bloom, .slice A15 x13.length c16⟩ : RcptC).C (Rcpt.mk a0.kind (a0.rooted) a0.root a0.status a0.used a0.bloom x13) x207 h205 hg2 hx206) rfl ?_
     rintro _ G209 ⟨b208, rfl⟩
     refine UW.mem (M' := ((ob63, blk ((u8s x60) ++ r65) 5) :: (ob49, blk ((u8s x46) ++ r51) 5) :: (ob34, blk ((u8s x31) ++ r36) 5) :: (some b11, blk (⟨a0.kind, (a0.rooted), a0.root, a0.status, a0.used, a0.bloom, .slice A15 x13.length c16⟩ : RcptC).C 30) :: (some b10, blk (⟨a0.kind, (a0.rooted), a0.root, a0.status, a0.used, a0.bloom, .slice A2 a0.logs.length c3⟩ : RcptC).C 30) :: ((B62 ++ (B48 ++ (B33 ++ (B14 ++ [])))) ++ N))) (fun w m => m.appR) ?_
     obtain ⟨x212, hx211, hq74⟩ := some_bind hq74
     refine UW.callG 19 rfl (by kernel_rfl) rfl Tryd.call15 rfl (fun N' hN' => waybilllaw17_num_does w0 (More w0 Φ (B62 ++ (B48 ++ (B33 ++ (B14 ++ []))))) N' (fun w m => More.of hΦ 5 (hN' w m) rfl) ((x207 : Nat) : Int) x212 (by omega) hx211) rfl ?_
     rintro _ G214 ⟨b213, rfl⟩
     refine UW.mem (M' := ((ob63, blk ((u8s x60) ++ r65) 5) :: (ob49, blk ((u8s x46) ++ r51) 5) :: (ob34, blk ((u8s x31) ++ r36) 5) :: (some b11, blk (⟨a0.kind, (a0.rooted), a0.root, a0.status, a0.used, a0.bloom, .slice A15 x13.length c16⟩ : RcptC).C 30) :: (some b10, blk (⟨a0.kind, (a0.rooted), a0.root, a0.status, a0.used, a0.bloom, .slice A2 a0.logs.length c3⟩ : RcptC).C 30) :: ((B62 ++ (B48 ++ (B33 ++ (B14 ++ [])))) ++ N))) (fun w m => m.appR) ?_
     obtain ⟨x217, hx216, hq74⟩ := some_bind hq74
     refine UW.callG 21 rfl (by kernel_rfl) rfl Tryd.call37 rfl (fun N' hN' => waybillref17_Check_does w0 (More w0 Φ (B62 ++ (B48 ++ (B33 ++ (B14 ++ []))))) N' (fun w m => More.of hΦ 5 (hN' w m) rfl) (⟨a0.kind, (a0.rooted), a0.root, a0.status, a0.used, a0.bloom, .slice A2 a0.logs.length c3⟩ : RcptC).C a0 x217 h8 hTn hRn hx216) rfl ?_
     rintro _ G219 ⟨b218, rfl⟩
     refine UW.mem (M' := ((ob63, blk ((u8s x60) ++ r65) 5) :: (ob49, blk ((u8s x46) ++ r51) 5) :: (ob34, blk ((u8s x31) ++ r36) 5) :: (some b11, blk (⟨a0.kind, (a0.rooted), a0.root, a0.status, a0.used, a0.bloom, .slice A15 x13.length c16⟩ : RcptC).C 30) :: (some b10, blk (⟨a0.kind, (a0.rooted), a0.root, a0.status, a0.used, a0.bloom, .slice A2 a0.logs.length c3⟩ : RcptC).C 30) :: ((B62 ++ (B48 ++ (B33 ++ (B14 ++ [])))) ++ N))) (fun w m => m.appR) (UW.rv 22 rfl (by kernel_rfl) rfl (RV.neq rfl rfl) rfl (UW.rv 23 rfl (by kernel_rfl) rfl (RV.pick_f rfl rfl rfl) rfl (UW.rv 24 rfl (by kernel_rfl) rfl (RV.move rfl) rfl ?_)))
     by_cases h221 : x212 = ((x217 : Nat) : Int)
     ·replace hq74 := if_t hq74 h221
      refine UW.slot (.bool false) (congrArg Value.bool (congrArg (fun b => !b) (decide_eq_true h221))) (UW.rv 25 rfl (by kernel_rfl) rfl (RV.field rfl rfl rfl rfl) rfl (UW.slot (ptr (some b11) 292) rfl (UW.rv 26 rfl (by kernel_rfl) rfl (RV.load rfl (List.Mem.tail _ (List.Mem.tail _ (List.Mem.tail _ (List.Mem.head _)))) rfl rfl rfl (RcptC.C_logs (⟨a0.kind, (a0.rooted), a0.root, a0.status, a0.used, a0.bloom, .slice A15 x13.length c16⟩ : RcptC))) rfl (UW.rv 27 rfl (by kernel_rfl) rfl (RV.field rfl rfl rfl rfl) rfl (UW.slot (ptr (some b10) 292) rfl (UW.rv 28 rfl (by kernel_rfl) rfl (RV.load rfl (List.Mem.tail _ (List.Mem.tail _ (List.Mem.tail _ (List.Mem.tail _ (List.Mem.head _))))) rfl rfl rfl (RcptC.C_logs (⟨a0.kind, (a0.rooted), a0.root, a0.status, a0.used, a0.bloom, .slice A2 a0.logs.length c3⟩ : RcptC))) rfl ?_))))))
      obtain ⟨x223, hx222, hq74⟩ := some_bind hq74
      refine UW.callG 29 rfl (by kernel_rfl) rfl Tryd.call24 rfl (fun N' hN' => waybilllaw17_stillLogs_does w0 (More w0 Φ (B62 ++ (B48 ++ (B33 ++ (B14 ++ []))))) N' (fun w m => More.of hΦ 5 (hN' w m) rfl) A15 c16 x13 A2 c3 cs5 a0.logs x223 v17 v4 h6 hx222) rfl ?_
      rintro _ G224 rfl
      refine UW.mem (M' := ((ob63, blk ((u8s x60) ++ r65) 5) :: (ob49, blk ((u8s x46) ++ r51) 5) :: (ob34, blk ((u8s x31) ++ r36) 5) :: (some b11, blk (⟨a0.kind, (a0.rooted), a0.root, a0.status, a0.used, a0.bloom, .slice A15 x13.length c16⟩ : RcptC).C 30) :: (some b10, blk (⟨a0.kind, (a0.rooted), a0.root, a0.status, a0.used, a0.bloom, .slice A2 a0.logs.length c3⟩ : RcptC).C 30) :: ((B62 ++ (B48 ++ (B33 ++ (B14 ++ [])))) ++ N))) (fun w m => m.appR) (UW.rv 30 rfl (by kernel_rfl) rfl (RV.not rfl) rfl (UW.rv 31 rfl (by kernel_rfl) rfl (RV.pick_f rfl rfl rfl) rfl (UW.nil (by kernel_rfl) (OW.nil ?_))))
      exact QW.join ⟨(!x223), (Option.some.inj hq74).symm, rfl, rfl⟩ ⟨rfl, rfl, rfl, rfl, rfl, rfl, trivial⟩ (fun w m => m.pick [0, 1, 2, 3, 4] 5 rfl rfl)
     ·replace hq74 := if_f hq74 h221
      refine UW.slot (.bool true) (congrArg Value.bool (congrArg (fun b => !b) (decide_eq_false h221))) (UW.skip 25 rfl (by kernel_rfl) rfl rfl (UW.skip 26 rfl (by kernel_rfl) rfl rfl (UW.skip 27 rfl (by kernel_rfl) rfl rfl (UW.skip 28 rfl (by kernel_rfl) rfl rfl (UW.skip 29 rfl (by kernel_rfl) rfl rfl (UW.skip 30 rfl (by kernel_rfl) rfl rfl (UW.rv 31 rfl (by kernel_rfl) rfl (RV.pick_t rfl rfl rfl) rfl (UW.nil (by kernel_rfl) (OW.nil ?_)))))))))
      exact QW.join ⟨true, (Option.some.inj hq74).symm, rfl, rfl⟩ ⟨rfl, rfl, rfl, rfl, rfl, rfl, trivial⟩ (fun w m => m.pick [0, 1, 2, 3, 4] 5 rfl rfl)
    ·replace hq74 := if_f hq74 h204
     refine UW.slot (.bool true) (congrArg Value.bool (congrArg (fun b => !b) (decide_eq_false h204))) (UW.skip 17 rfl (by kernel_rfl) rfl rfl (UW.skip 20 rfl (by kernel_rfl) rfl rfl (UW.skip 18 rfl (by kernel_rfl) rfl rfl (UW.skip 19 rfl (by kernel_rfl) rfl rfl (UW.skip 21 rfl (by kernel_rfl) rfl rfl (UW.skip 22 rfl (by kernel_rfl) rfl rfl (UW.rv 23 rfl (by kernel_rfl) rfl (RV.pick_t rfl rfl rfl) rfl (UW.rv 24 rfl (by kernel_rfl) rfl (RV.move rfl) rfl (UW.skip 25 rfl (by kernel_rfl) rfl rfl (UW.skip 26 rfl (by kernel_rfl) rfl rfl (UW.skip 27 rfl (by kernel_rfl) rfl rfl (UW.skip 28 rfl (by kernel_rfl) rfl rfl (UW.skip 29 rfl (by kernel_rfl) rfl rfl (UW.skip 30 rfl (by kernel_rfl) rfl rfl (UW.rv 31 rfl (by kernel_rfl) rfl (RV.pick_t rfl rfl rfl) rfl (UW.nil (by kernel_rfl) (OW.nil ?_)))))))))))))))))
     exact QW.join ⟨true, (Option.some.inj hq74).symm, rfl, rfl⟩ ⟨rfl, rfl, rfl, rfl, rfl, rfl, trivial⟩ (fun w m => m.pick [0, 1, 2, 3, 4] 5 rfl rfl)
   ·replace hq74 := if_f hq74 h198
    refine UW.slot (.bool true) (congrArg Value.bool (congrArg (fun b => !b) (Bool.eq_false_iff.2 h198))) (UW.skip 11 rfl (by kernel_rfl) rfl rfl (UW.skip 13 rfl (by kernel_rfl) rfl rfl (UW.skip 12 rfl (by kernel_rfl) rfl rfl (UW.skip 14 rfl (by kernel_rfl) rfl rfl (UW.rv 15 rfl (by kernel_rfl) rfl (RV.pick_t rfl rfl rfl) rfl (UW.rv 16 rfl (by kernel_rfl) rfl (RV.move rfl) rfl (UW.skip 17 rfl (by kernel_rfl) rfl rfl (UW.skip 20 rfl (by kernel_rfl) rfl rfl (UW.skip 18 rfl (by kernel_rfl) rfl rfl (UW.skip 19 rfl (by kernel_rfl) rfl rfl (UW.skip 21 rfl (by kernel_rfl) rfl rfl (UW.skip 22 rfl (by kernel_rfl) rfl rfl (UW.rv 23 rfl (by kernel_rfl) rfl (RV.pick_t rfl rfl rfl) rfl (UW.rv 24 rfl (by kernel_rfl) rfl (RV.move rfl) rfl (UW.skip 25 rfl (by kernel_rfl) rfl rfl (UW.skip 26 rfl (by kernel_rfl) rfl rfl (UW.skip 27 rfl (by kernel_rfl) rfl rfl (UW.skip 28 rfl (by kernel_rfl) rfl rfl (UW.skip 29 rfl (by kernel_rfl) rfl rfl (UW.skip 30 rfl (by kernel_rfl) rfl rfl (UW.rv 31 rfl (by kernel_rfl) rfl (RV.pick_t rfl rfl rfl) rfl (UW.nil (by kernel_rfl) (OW.nil ?_)))))))))))))))))))))))
    exact QW.join ⟨true, (Option.some.inj hq74).symm, rfl, rfl⟩ ⟨rfl, rfl, rfl, rfl, rfl, rfl, trivial⟩ (fun w m => m.pick [0, 1, 2, 3, 4] 5 rfl rfl)
  ·replace hq74 := if_f hq74 h193
   refine UW.slot (.bool true) (congrArg Value.bool (congrArg (fun b => !b) (Bool.eq_false_iff.2 h193))) (UW.skip 5 rfl (by kernel_rfl) rfl rfl (UW.skip 6 rfl (by kernel_rfl) rfl rfl (UW.skip 7 rfl (by kernel_rfl) rfl rfl (UW.skip 8 rfl (by kernel_rfl) rfl rfl (UW.rv 9 rfl (by kernel_rfl) rfl (RV.pick_t rfl rfl rfl) rfl (UW.rv 10 rfl (by kernel_rfl) rfl (RV.move rfl) rfl (UW.skip 11 rfl (by kernel_rfl) rfl rfl (UW.skip 13 rfl (by kernel_rfl) rfl rfl (UW.skip 12 rfl (by kernel_rfl) rfl rfl (UW.skip 14 rfl (by kernel_rfl) rfl rfl (UW.rv 15 rfl (by kernel_rfl) rfl (RV.pick_t rfl rfl rfl) rfl (UW.rv 16 rfl (by kernel_rfl) rfl (RV.move rfl) rfl (UW.skip 17 rfl (by kernel_rfl) rfl rfl (UW.skip 20 rfl (by kernel_rfl) rfl rfl (UW.skip 18 rfl (by kernel_rfl) rfl rfl (UW.skip 19 rfl (by kernel_rfl) rfl rfl (UW.skip 21 rfl (by kernel_rfl) rfl rfl (UW.skip 22 rfl (by kernel_rfl) rfl rfl (UW.rv 23 rfl (by kernel_rfl) rfl (RV.pick_t rfl rfl rfl) rfl (UW.rv 24 rfl (by kernel_rfl) rfl (RV.move rfl) rfl (UW.skip 25 rfl (by kernel_rfl) rfl rfl (UW.skip 26 rfl (by kernel_rfl) rfl rfl (UW.skip 27 rfl (by kernel_rfl) rfl rfl (UW.skip 28 rfl (by kernel_rfl) rfl rfl (UW.skip 29 rfl (by kernel_rfl) rfl rfl (UW.skip 30 rfl (by kernel_rfl) rfl rfl (UW.rv 31 rfl (by kernel_rfl) rfl (RV.pick_t rfl rfl rfl) rfl (UW.nil (by kernel_rfl) (OW.nil ?_)))))))))))))))))))))))))))))
   exact QW.join ⟨true, (Option.some.inj hq74).symm, rfl, rfl⟩ ⟨rfl, rfl, rfl, rfl, rfl, rfl, trivial⟩ (fun w m => m.pick [0, 1, 2, 3, 4] 5 rfl rfl)
end Go.Fw.Tryd
namespace Go.Fw
set_option linter.unusedVariables false
set_option linter.unusedSimpArgs false
set_option maxRecDepth 100000
def val4 (v : Vector (BitVec 64) 4) : Nat := v[0].toNat + 2 ^ 64 * v[1].toNat + 2 ^ 128 * v[2].toNat + 2 ^ 192 * v[3].toNat
def lim (n : Nat) : Vector (BitVec 64) 4 := #v[BitVec.ofNat 64 n, BitVec.ofNat 64 (n / 2 ^ 64), BitVec.ofNat 64 (n / 2 ^ 128), BitVec.ofNat 64 (n / 2 ^ 192)]
theorem vec4_ext {a b : Vector (BitVec 64) 4} (h0 : a[0] = b[0]) (h1 : a[1] = b[1]) (h2 : a[2] = b[2]) (h3 : a[3] = b[3]) : a = b := by
  apply Vector.ext
  intro i hi
  match i, hi with
  | 0, _ => exact h0
  | 1, _ => exact h1
  | 2, _ => exact h2
  | 3, _ => exact h3
theorem val4_lt (v : Vector (BitVec 64) 4) : val4 v < 2 ^ 256 := by
  have h0 := v[0].isLt; have h1 := v[1].isLt; have h2 := v[2].isLt; have h3 := v[3].isLt
  unfold val4
  omega
theorem val4_lim (n : Nat) (h : n < 2 ^ 256) : val4 (lim n) = n := by
  simp only [val4, lim, Vector.getElem_mk, List.getElem_toArray, List.getElem_cons_zero, List.getElem_cons_succ, BitVec.toNat_ofNat]
  omega
theorem from_eq (x : BitVec 64) : u256_From x = some (lim x.toNat) := by
  unfold u256_From
  congr 1
  have := x.isLt
  apply vec4_ext <;> (apply BitVec.eq_of_toNat_eq; simp [lim]; try omega)
theorem rfrom_eq (x : BitVec 64) : waybillref01_From x = some (lim x.toNat) := by
  unfold waybillref01_From
  congr 1
  have := x.isLt
  apply vec4_ext <;> (apply BitVec.eq_of_toNat_eq; simp [lim]; try omega)
end Go.Fw
namespace Go.Fw
set_option linter.unusedVariables false
set_option linter.unusedSimpArgs false
set_option maxRecDepth 100000
def be : Nat → Nat → List (BitVec 8)
  | 0, _ => []
  | k + 1, n => BitVec.ofNat 8 (n / 256 ^ k) :: be k n
theorem be_length : ∀ (k n : Nat), (be k n).length = k
  | 0, _ => rfl
  | k + 1, n => by simp [be, be_length k n]
theorem be_drop (n : Nat) : ∀ (d j : Nat), (be (j + d) n).drop d = be j n
  | 0, j => by simp
  | d + 1, j => by
    rw [show j + (d + 1) = (j + d) + 1 by omega]
    show ((BitVec.ofNat 8 (n / 256 ^ (j + d))) :: be (j + d) n).drop (d + 1) = be j n
    rw [List.drop_succ_cons]; exact be_drop n d j
theorem be_get (n : Nat) : ∀ (k i : Nat), i < k → (be k n)[i]? = some (BitVec.ofNat 8 (n / 256 ^ (k - 1 - i)))
  | 0, i, h => by omega
  | k + 1, 0, h => by simp [be]
  | k + 1, i + 1, h => by
    simp only [be, List.getElem?_cons_succ]
    rw [be_get n k i (by omega)]
    rw [show k + 1 - 1 - (i + 1) = k - 1 - i by omega]
def bl (n : Nat) : Nat := if n = 0 then 0 else n.log2 + 1
theorem bl_eq {n k : Nat} (h1 : 2 ^ k ≤ n) (h2 : n < 2 ^ (k + 1)) : bl n = k + 1 := by
  have hp : 0 < 2 ^ k := Nat.two_pow_pos k
  unfold bl
  rw [if_neg (by omega)]
  have := (Nat.log2_lt (n := n) (k := k + 1) (by omega)).2 h2
  have := (Nat.le_log2 (n := n) (k := k) (by omega)).2 h1
  omega
theorem bl_spec {n : Nat} (h : n ≠ 0) : ∃ k, bl n = k + 1 ∧ 2 ^ k ≤ n ∧ n < 2 ^ (k + 1) := ⟨n.log2, by unfold bl; rw [if_neg h], Nat.log2_self_le h, Nat.lt_log2_self⟩
theorem bl_le {n k : Nat} (h : n < 2 ^ k) : bl n ≤ k := by
  unfold bl
  split
  · omega
  · have := (Nat.log2_lt (n := n) (k := k) (by omega)).2 h; omega
theorem lenB_bl (x : BitVec 8) : lenB x = bl x.toNat := by
  unfold lenB bl
  by_cases h : x = 0#8
  · subst h; rfl
  · rw [if_neg h, if_neg (show ¬ x.toNat = 0 from fun e => h (BitVec.eq_of_toNat_eq e))]
theorem bl_shift {n s : Nat} (h : 2 ^ s ≤ n) : bl (n / 2 ^ s) + s = bl n := by
  have hp : 0 < 2 ^ s := Nat.two_pow_pos s
  have hq : n / 2 ^ s ≠ 0 := by
    have := Nat.div_pos h hp; omega
  obtain ⟨k, h1, h2, h3⟩ := bl_spec hq
  rw [h1, bl_eq (k := k + s)]
  · omega
  · rw [Nat.pow_add]; exact (Nat.le_div_iff_mul_le hp).1 h2
  · rw [show k + s + 1 = (k + 1) + s by omega, Nat.pow_add]; exact (Nat.div_lt_iff_lt_mul hp).1 h3
theorem len64_eq (x : BitVec 64) : math_bits_Len64 x = some (bl x.toNat) := by
  have hx := x.isLt
  have fin : ∀ (w : BitVec 64) (n : Nat), w.toNat < 256 → n + bl w.toNat = bl x.toNat → n ≤ 64 →
      (if (n + (BitVec.ofNat 8 (lenB (w.setWidth 8))).toNat) ≤ 9223372036854775807 then (some (n + (BitVec.ofNat 8 (lenB (w.setWidth 8))).toNat)) else none) = some (bl x.toNat) := by
    intro w n hw hn h64
    have h1 : (w.setWidth 8).toNat = w.toNat := by rw [BitVec.toNat_setWidth]; omega
    have h2 := lenB_le (w.setWidth 8)
    have h3 : (BitVec.ofNat 8 (lenB (w.setWidth 8))).toNat = bl w.toNat := by rw [BitVec.toNat_ofNat, lenB_bl, h1]; rw [lenB_bl, h1] at h2; omega
    rw [h3, if_pos (by rw [lenB_bl, h1] at h2; omega), hn]
  have s32 : (x >>> 32).toNat = x.toNat / 2 ^ 32 := by rw [BitVec.toNat_ushiftRight, Nat.shiftRight_eq_div_pow]
  have step8 : ∀ (w : BitVec 64) (n : Nat), w.toNat < 65536 → n + bl w.toNat = bl x.toNat → n ≤ 48 →
      ((((if 256 ≤ w.toNat then (if (n + 8) ≤ 9223372036854775807 then (some (((w >>> 8), (n + 8)))) else none) else (some ((w, n)))) : Option ((BitVec 64) × (Nat))).bind fun (w23, n24) => (if (n24 + (BitVec.ofNat 8 (lenB (w23.setWidth 8))).toNat) ≤ 9223372036854775807 then (some (n24 + (BitVec.ofNat 8 (lenB (w23.setWidth 8))).toNat)) else none))) = some (bl x.toNat) := by
    intro w n hw hn h48
    have s8 : (w >>> 8).toNat = w.toNat / 2 ^ 8 := by rw [BitVec.toNat_ushiftRight, Nat.shiftRight_eq_div_pow]
    by_cases h : 256 ≤ w.toNat
    · rw [if_pos h, if_pos (by omega)]
      have := bl_shift (n := w.toNat) (s := 8) (by omega)
      rw [← s8] at this
      exact fin _ _ (by omega) (by omega) (by omega)
    · rw [if_neg h]
      exact fin _ _ (by omega) hn (by omega)
  have step16 : ∀ (w : BitVec 64) (n : Nat), w.toNat < 4294967296 → n + bl w.toNat = bl x.toNat → n ≤ 32 →
      (((if 65536 ≤ w.toNat then (if (n + 16) ≤ 9223372036854775807 then (some (((w >>> 16), (n + 16)))) else none) else (some ((w, n)))) : Option ((BitVec 64) × (Nat))).bind fun (w13, n14) => (((if 256 ≤ w13.toNat then (if (n14 + 8) ≤ 9223372036854775807 then (some (((w13 >>> 8), (n14 + 8)))) else none) else (some ((w13, n14)))) : Option ((BitVec 64) × (Nat))).bind fun (w23, n24) => (if (n24 + (BitVec.ofNat 8 (lenB (w23.setWidth 8))).toNat) ≤ 9223372036854775807 then (some (n24 + (BitVec.ofNat 8 (lenB (w23.setWidth 8))).toNat)) else none))) = some (bl x.toNat) := by
    intro w n hw hn h32
    have s16 : (w >>> 16).toNat = w.toNat / 2 ^ 16 := by rw [BitVec.toNat_ushiftRight, Nat.shiftRight_eq_div_pow]
    by_cases h : 65536 ≤ w.toNat
    · rw [if_pos h, if_pos (by omega)]
      have := bl_shift (n := w.toNat) (s := 16) (by omega)
      rw [← s16] at this
      exact step8 _ _ (by omega) (by omega) (by omega)
    · rw [if_neg h]
      exact step8 _ _ (by omega) hn (by omega)
  unfold math_bits_Len64
  by_cases h : 4294967296 ≤ x.toNat
  · rw [if_pos h]
    have := bl_shift (n := x.toNat) (s := 32) (by omega)
    rw [← s32] at this
    exact step16 _ _ (by omega) (by omega) (by omega)
  · rw [if_neg h]
    exact step16 _ _ (by omega) (by omega) (by omega)
theorem vget (v : Vector (BitVec 64) 4) (i : Nat) (h : i < 4) : v[i]? = some v[i] := Vector.getElem?_eq_getElem h
theorem bl_top {a b s : Nat} (hb : b < 2 ^ s) (ha : a ≠ 0) : bl (b + 2 ^ s * a) = s + bl a := by
  obtain ⟨k, h1, h2, h3⟩ := bl_spec ha
  have hp : 0 < 2 ^ s := Nat.two_pow_pos s
  rw [h1, bl_eq (k := s + k)]
  · omega
  · rw [Nat.pow_add]; have := Nat.mul_le_mul_left (2 ^ s) h2; omega
  · rw [show s + k + 1 = s + (k + 1) by omega, Nat.pow_add]
    have h4 : 2 ^ s * (a + 1) ≤ 2 ^ s * 2 ^ (k + 1) := Nat.mul_le_mul_left _ h3
    rw [Nat.mul_add] at h4; omega
theorem ulen_eq (v : Vector (BitVec 64) 4) : u256_Len v = some ((bl (val4 v) : Nat) : Int) := by
  have x0 := v[0].isLt; have x1 := v[1].isLt; have x2 := v[2].isLt; have x3 := v[3].isLt
  have hz : ∀ (x : BitVec 64), x = 0#64 ↔ x.toNat = 0 := fun x => ⟨fun h => by subst h; rfl, fun h => BitVec.eq_of_toNat_eq h⟩
  have b0 := bl_le x0; have b1 := bl_le x1; have b2 := bl_le x2; have b3 := bl_le x3
  unfold u256_Len
  simp only [u256_Len.l1, Int.reduceLE, if_true, Int.reduceSub, Int.reduceToNat, Int.toNat_zero, Int.reduceNeg, and_self, Nat.reduceLT, vget v 0 (by omega), vget v 1 (by omega), vget v 2 (by omega), vget v 3 (by omega), Option.bind_some, if_false, Nat.zero_lt_succ, Nat.lt_add_one, Int.reduceMul, len64_eq]
  by_cases h3 : v[3] = 0#64
  · have e3 := (hz _).1 h3
    by_cases h2 : v[2] = 0#64
    · have e2 := (hz _).1 h2
      by_cases h1 : v[1] = 0#64
      · have e1 := (hz _).1 h1
        by_cases h0 : v[0] = 0#64
        · have e0 := (hz _).1 h0
          simp [h0, h1, h2, h3, val4, bl]
        · have hv : val4 v = v[0].toNat := by unfold val4; omega
          rw [hv]
          simp only [h3, h2, h1, h0, if_true, if_false]
          rw [if_pos (by omega)]
          simp
      · have hv : val4 v = v[0].toNat + 2 ^ 64 * v[1].toNat := by unfold val4; omega
        rw [hv, bl_top x0 (fun e => h1 ((hz _).2 e))]
        simp only [h3, h2, h1, if_true, if_false]
        rw [if_pos (by omega)]
        simp
    · have hv : val4 v = (v[0].toNat + 2 ^ 64 * v[1].toNat) + 2 ^ 128 * v[2].toNat := by unfold val4; omega
      rw [hv, bl_top (by omega) (fun e => h2 ((hz _).2 e))]
      simp only [h3, h2, if_true, if_false]
      rw [if_pos (by omega)]
      simp
  · have hv : val4 v = (v[0].toNat + 2 ^ 64 * v[1].toNat + 2 ^ 128 * v[2].toNat) + 2 ^ 192 * v[3].toNat := by unfold val4; omega
    rw [hv, bl_top (by omega) (fun e => h3 ((hz _).2 e))]
    simp only [h3, if_true, if_false]
    rw [if_pos (by omega)]
    simp
end Go.Fw
namespace Go.Fw
set_option linter.unusedVariables false
set_option linter.unusedSimpArgs false
set_option maxRecDepth 100000
theorem limb (v : Vector (BitVec 64) 4) (q : Nat) (h : q < 4) : val4 v / 2 ^ (64 * q) % 2 ^ 64 = v[q].toNat := by
  have x0 := v[0].isLt; have x1 := v[1].isLt; have x2 := v[2].isLt; have x3 := v[3].isLt
  unfold val4
  match q, h with
  | 0, _ => simp only [Nat.mul_zero, Nat.pow_zero, Nat.div_one]; omega
  | 1, _ => simp only [Nat.mul_one]; omega
  | 2, _ => simp only [Nat.reduceMul]; omega
  | 3, _ => simp only [Nat.reduceMul]; omega
theorem byte_r (m x r : Nat) (h : r < 8) (e : m % 2 ^ 64 = x) : m / 256 ^ r % 256 = x / 256 ^ r % 256 := by
  subst e
  match r, h with
  | 0, _ => simp only [Nat.pow_zero]; omega
  | 1, _ => simp only [Nat.pow_one]; omega
  | 2, _ => simp only [Nat.reducePow]; omega
  | 3, _ => simp only [Nat.reducePow]; omega
  | 4, _ => simp only [Nat.reducePow]; omega
  | 5, _ => simp only [Nat.reducePow]; omega
  | 6, _ => simp only [Nat.reducePow]; omega
  | 7, _ => simp only [Nat.reducePow]; omega
theorem pow256 (r : Nat) : 256 ^ r = 2 ^ (8 * r) := by rw [show (256 : Nat) = 2 ^ 8 by rfl, ← Nat.pow_mul]
theorem put_byte (v : Vector (BitVec 64) 4) (n : Nat) (h : n / 8 < 4) : ((v[n / 8] >>> (8 * (n % 8))).setWidth 8) = BitVec.ofNat 8 (val4 v / 256 ^ n) := by
  apply BitVec.eq_of_toNat_eq
  rw [BitVec.toNat_setWidth, BitVec.toNat_ushiftRight, Nat.shiftRight_eq_div_pow, BitVec.toNat_ofNat, ← pow256]
  have h1 := byte_r (val4 v / 2 ^ (64 * (n / 8))) _ (n % 8) (by omega) (limb v (n / 8) h)
  rw [Nat.div_div_eq_div_mul] at h1
  have e : 2 ^ (64 * (n / 8)) * 256 ^ (n % 8) = 256 ^ n := by
    rw [pow256, pow256, ← Nat.pow_add]
    congr 1
    omega
  rw [e] at h1
  omega
def fillB (v : Vector (BitVec 64) 4) : Nat → Nat → Vector (BitVec 8) 32 → Vector (BitVec 8) 32
  | _, 0, w => w
  | n, d + 1, w => fillB v (n + 1) d (w.setIfInBounds (31 - n) (BitVec.ofNat 8 (val4 v / 256 ^ n)))
theorem put_loop (v : Vector (BitVec 64) 4) : ∀ (d n k : Nat) (w : Vector (BitVec 8) 32), n + d = 32 → d < k → u256_Put.l1 v k n w = some (fillB v n d w)
  | 0, n, k, w, h, hk => by
    obtain ⟨k, rfl⟩ : ∃ m, k = m + 1 := ⟨k - 1, by omega⟩
    simp only [u256_Put.l1]
    rw [if_neg (by omega)]; rfl
  | d + 1, n, k, w, h, hk => by
    obtain ⟨k, rfl⟩ : ∃ m, k = m + 1 := ⟨k - 1, by omega⟩
    simp only [u256_Put.l1]
    rw [if_pos (by omega), if_pos (by omega), if_pos (by omega), vget v (n / 8) (by omega)]
    simp only [Option.bind_some]
    rw [if_pos (by omega), put_byte v n (by omega)]
    exact put_loop v d (n + 1) k _ (by omega) (by omega)
theorem rput_loop (v : Vector (BitVec 64) 4) : ∀ (d n k : Nat) (w : Vector (BitVec 8) 32), n + d = 32 → d < k → waybillref01_Put.l1 v k n w = some (fillB v n d w)
  | 0, n, k, w, h, hk => by
    obtain ⟨k, rfl⟩ : ∃ m, k = m + 1 := ⟨k - 1, by omega⟩
    simp only [waybillref01_Put.l1]
    rw [if_neg (by omega)]; rfl
  | d + 1, n, k, w, h, hk => by
    obtain ⟨k, rfl⟩ : ∃ m, k = m + 1 := ⟨k - 1, by omega⟩
    simp only [waybillref01_Put.l1]
    have e : (BitVec.ofNat 64 (8 * (n % 8))).toNat = 8 * (n % 8) := by rw [BitVec.toNat_ofNat]; omega
    rw [if_pos (by omega), if_pos (by omega), if_pos (by omega), vget v (n / 8) (by omega), e]
    simp only [Option.bind_some]
    rw [if_pos (by omega), put_byte v n (by omega)]
    exact rput_loop v d (n + 1) k _ (by omega) (by omega)
theorem fillB_get (v : Vector (BitVec 64) 4) : ∀ (d n : Nat) (w : Vector (BitVec 8) 32), n + d = 32 → ∀ i (hi : i < 32), (fillB v n d w)[i] = if i ≤ 31 - n ∧ 0 < d then BitVec.ofNat 8 (val4 v / 256 ^ (31 - i)) else w[i]
  | 0, n, w, h, i, hi => by simp [fillB]
  | d + 1, n, w, h, i, hi => by
    unfold fillB
    rw [fillB_get v d (n + 1) _ (by omega) i hi]
    rw [Vector.getElem_setIfInBounds]
    by_cases h1 : i = 31 - n
    · subst h1
      rw [if_neg (by omega), if_pos (by omega), if_pos (by omega), show 31 - (31 - n) = n by omega]
    · by_cases h2 : i ≤ 31 - (n + 1) ∧ 0 < d
      · rw [if_pos h2, if_pos (by omega)]
      · rw [if_neg h2, if_neg (by omega), if_neg (by omega)]
theorem fillB_be (v : Vector (BitVec 64) 4) (w : Vector (BitVec 8) 32) : (fillB v 0 32 w).toList = be 32 (val4 v) := by
  apply List.ext_getElem?
  intro i
  rcases Nat.lt_or_ge i 32 with h | h
  · rw [be_get _ 32 i h, vat' h, fillB_get v 32 0 w (by omega) i h, if_pos (by omega)]
  · rw [List.getElem?_eq_none (by simp; omega), List.getElem?_eq_none (by rw [be_length]; omega)]
theorem put_eq (v : Vector (BitVec 64) 4) : ∃ w, u256_Put v = some w ∧ waybillref01_Put v = some w ∧ w.toList = be 32 (val4 v) := by
  refine ⟨fillB v 0 32 (Vector.replicate 32 0#8), ?_, ?_, fillB_be v _⟩
  · unfold u256_Put; rw [put_loop v 32 0 _ _ (by omega) (by omega)]; rfl
  · unfold waybillref01_Put; rw [rput_loop v 32 0 _ _ (by omega) (by omega)]; rfl
def nb (n : Nat) : Nat := (bl n + 7) / 8
def bytesN (n : Nat) : List (BitVec 8) := be (nb n) n
theorem nb_le {n : Nat} (h : n < 2 ^ 256) : nb n ≤ 32 := by have := bl_le h; unfold nb; omega
theorem be_drop' {n k j : Nat} (h : j ≤ k) : (be k n).drop (k - j) = be j n := by
  have := be_drop n (k - j) j
  rwa [show j + (k - j) = k by omega] at this
theorem bytes_eq (v : Vector (BitVec 64) 4) : u256_Bytes v = some (bytesN (val4 v)) := by
  obtain ⟨w, h1, _, h3⟩ := put_eq v
  unfold u256_Bytes
  have hb : bl (val4 v) ≤ 256 := bl_le (k := 256) (val4_lt v)
  have h32 := nb_le (val4_lt v)
  have hnb : (bl (val4 v) + 7) / 8 = nb (val4 v) := rfl
  have e : (((bl (val4 v) : Nat) : Int) + 7).toNat / 8 = nb (val4 v) := by omega
  rw [h1, Option.bind_some, ulen_eq, Option.bind_some, if_pos (by omega), if_pos (by omega), e, if_pos (by omega), show ((32 : Int) - ((nb (val4 v) : Nat) : Int)).toNat = 32 - nb (val4 v) by omega, if_pos (by omega), h3, be_drop' h32]
  rfl
theorem byte_hi {n k : Nat} (h : nb n ≤ k) : BitVec.ofNat 8 (n / 256 ^ k) = 0#8 := by
  have : n < 256 ^ k := by
    by_cases h0 : n = 0
    · subst h0; exact Nat.pow_pos (by omega)
    obtain ⟨j, h1, h2, h3⟩ := bl_spec h0
    rw [pow256]
    refine Nat.lt_of_lt_of_le h3 (Nat.pow_le_pow_right (by omega) ?_)
    unfold nb at h; omega
  rw [Nat.div_eq_of_lt this]
theorem byte_top {n : Nat} (h : n ≠ 0) : BitVec.ofNat 8 (n / 256 ^ (nb n - 1)) ≠ 0#8 := by
  obtain ⟨j, h1, h2, h3⟩ := bl_spec h
  have hnb : nb n = j / 8 + 1 := by unfold nb; omega
  rw [hnb, Nat.add_sub_cancel, pow256]
  have hp : 0 < 2 ^ (8 * (j / 8)) := Nat.two_pow_pos _
  have ha : 0 < n / 2 ^ (8 * (j / 8)) := Nat.div_pos (Nat.le_trans (Nat.pow_le_pow_right (by omega) (by omega)) h2) hp
  have hb : n / 2 ^ (8 * (j / 8)) < 256 := by
    rw [Nat.div_lt_iff_lt_mul hp]
    refine Nat.lt_of_lt_of_le h3 ?_
    rw [show (256 : Nat) = 2 ^ 8 by rfl, ← Nat.pow_add]
    exact Nat.pow_le_pow_right (by omega) (by omega)
  intro e
  have := congrArg BitVec.toNat e
  rw [BitVec.toNat_ofNat] at this
  simp at this
  omega
theorem rbytes_loop (w : Vector (BitVec 8) 32) (n : Nat) (hw : w.toList = be 32 n) (h256 : nb n ≤ 32) : ∀ (d i k : Nat) (l : List (BitVec 8)), i + d = 32 → d < k → l = ((be 32 n).take i).drop (32 - nb n) → waybillref01_Bytes.l1 w k l i = some (bytesN n)
  | 0, i, k, l, h, hk, hl => by
    obtain ⟨k, rfl⟩ : ∃ m, k = m + 1 := ⟨k - 1, by omega⟩
    simp only [waybillref01_Bytes.l1]
    rw [if_neg (by omega), hl, List.take_of_length_le (by rw [be_length]; omega)]
    rw [be_drop' h256]; rfl
  | d + 1, i, k, l, h, hk, hl => by
    obtain ⟨k, rfl⟩ : ∃ m, k = m + 1 := ⟨k - 1, by omega⟩
    have hlen : l.length = i - (32 - nb n) := by rw [hl, List.length_drop, List.length_take, be_length]; omega
    have hx : w[i]? = some (BitVec.ofNat 8 (n / 256 ^ (31 - i))) := by
      rw [← Vector.getElem?_toList, hw, be_get n 32 i (by omega)]
    have hnext : 32 - nb n ≤ i → l ++ [BitVec.ofNat 8 (n / 256 ^ (31 - i))] = ((be 32 n).take (i + 1)).drop (32 - nb n) := fun hi => by
      rw [List.take_add_one, be_get n 32 i (by omega), Option.toList_some, List.drop_append, hl]
      congr 1
      rw [List.length_take, be_length, show 32 - nb n - min i 32 = 0 by omega]; rfl
    simp only [waybillref01_Bytes.l1]
    rw [if_pos (by omega)]
    by_cases h0 : 0 < l.length
    · rw [if_pos h0, hx]
      simp only [Option.bind_some, List.length_cons, List.length_nil]
      rw [if_pos (by omega)]
      simp only [Option.bind_some]
      exact rbytes_loop w n hw h256 d (i + 1) k _ (by omega) (by omega) (hnext (by omega))
    · rw [if_neg h0, hx]
      simp only [Option.bind_some]
      by_cases hi : i < 32 - nb n
      · rw [if_pos (byte_hi (by omega))]
        simp only [Option.bind_some]
        refine rbytes_loop w n hw h256 d (i + 1) k _ (by omega) (by omega) ?_
        rw [List.drop_of_length_le (by rw [List.length_take, be_length]; omega)]
        exact List.length_eq_zero_iff.1 (by omega)
      · have hi2 : i = 32 - nb n := by omega
        have hn0 : n ≠ 0 := fun e => by subst e; simp [nb, bl] at hi2; omega
        have h31 : 31 - i = nb n - 1 := by omega
        rw [if_neg (by rw [h31]; exact byte_top hn0)]
        simp only [Option.bind_some, List.length_cons, List.length_nil]
        rw [if_pos (by omega)]
        simp only [Option.bind_some]
        exact rbytes_loop w n hw h256 d (i + 1) k _ (by omega) (by omega) (hnext (by omega))
theorem rbytes_eq (v : Vector (BitVec 64) 4) : waybillref01_Bytes v = some (bytesN (val4 v)) := by
  obtain ⟨w, _, h2, h3⟩ := put_eq v
  unfold waybillref01_Bytes
  rw [h2]
  simp only [Option.bind_some]
  rw [rbytes_loop w (val4 v) h3 (nb_le (val4_lt v)) 32 0 40 [] (by omega) (by omega) (by simp)]
  rfl
end Go.Fw
namespace Go.Fw
set_option linter.unusedVariables false
set_option linter.unusedSimpArgs false
set_option maxRecDepth 100000
def small (s : List (BitVec 8)) (h : Nat) : Bool := match s[h]? with
  | some x => decide (x.toNat < 128)
  | none => false
theorem val4_lim' {n : Nat} (h : n < 2 ^ 64) : val4 (lim n) = n := val4_lim n (Nat.lt_trans h (by decide))
end Go.Fw
namespace Go.Fw
set_option linter.unusedVariables false
set_option linter.unusedSimpArgs false
set_option maxRecDepth 100000
theorem drop_cons_at {α : Type} {l : List α} {i : Nat} (h : i < l.length) : l.drop i = l[i] :: l.drop (i + 1) := List.drop_eq_getElem_cons h
end Go.Fw
namespace Go.Fw
set_option linter.unusedVariables false
set_option linter.unusedSimpArgs false
set_option maxRecDepth 100000
def headB (c n : Nat) : List (BitVec 8) := if n ≤ 55 then [BitVec.ofNat 8 (c + n)] else BitVec.ofNat 8 (c + 55 + nb n) :: bytesN n
theorem bytesN_length (n : Nat) : (bytesN n).length = nb n := be_length _ _
theorem nb_8 {n : Nat} (h : n < 2 ^ 64) : nb n ≤ 8 := by have := bl_le (k := 64) h; unfold nb; omega
theorem headB_length {c n : Nat} (h : n < 2 ^ 64) : (headB c n).length ≤ 9 ∧ 0 < (headB c n).length := by
  unfold headB
  split
  · simp
  · rw [List.length_cons, bytesN_length]; have := nb_8 h; omega
theorem ofNat_toNat64 {n : Nat} (h : n < 2 ^ 64) : (BitVec.ofNat 64 n).toNat = n := by rw [BitVec.toNat_ofNat, Nat.mod_eq_of_lt h]
theorem head_spec (c n : Nat) (hn : n ≤ 9223372036854775807) : rlp_head (BitVec.ofNat 8 c) n = some (headB c n) := by
  unfold rlp_head headB
  by_cases h : n ≤ 55
  · rw [if_pos h, if_pos h, BitVec.ofNat_add]
  · have h64 : n < 2 ^ 64 := by omega
    have h8 := nb_8 h64
    rw [if_neg h, if_neg h, from_eq, Option.bind_some, bytes_eq, Option.bind_some, val4_lim' (BitVec.isLt _), ofNat_toNat64 h64, bytesN_length, if_pos (by simp only [List.length_cons, List.length_nil]; omega)]
    congr 1
    rw [List.singleton_append, BitVec.ofNat_add, BitVec.ofNat_add]
theorem before_spec (c n : Nat) (hc : c ≤ 255) (hn : n ≤ 9223372036854775807) : waybillref07_before n c = some (headB c n) := by
  unfold waybillref07_before headB
  by_cases h : n ≤ 55
  · rw [if_pos h, if_pos h, if_pos (by omega)]
  · have h64 : n < 2 ^ 64 := by omega
    have h8 := nb_8 h64
    rw [if_neg h, if_neg h, rfrom_eq, Option.bind_some, rbytes_eq, Option.bind_some, val4_lim' (BitVec.isLt _), ofNat_toNat64 h64, bytesN_length, if_pos (by omega), if_pos (by omega), if_pos (by simp only [List.length_cons, List.length_nil]; omega)]
    rfl
end Go.Fw
namespace Go.Fw
set_option linter.unusedVariables false
set_option linter.unusedSimpArgs false
set_option maxRecDepth 100000
mutual
def It.wt : It → Nat
  | .mk _ d its => d.length + its.length + 1 + Its.wt its
def Its.wt : List It → Nat
  | [] => 0
  | x :: xs => It.wt x + Its.wt xs
end
theorem It.wt_eq (x : It) : x.wt = x.data.length + x.items.length + 1 + Its.wt x.items := by cases x; simp [It.wt, It.data, It.items]
theorem It.sz_eq (x : It) : x.sz = 1 + Its.sz x.items := by cases x; simp [It.sz, It.items]
theorem Its.wt_mem : ∀ {l : List It} {x : It}, x ∈ l → It.wt x ≤ Its.wt l
  | y :: l, x, hx => by
    simp only [Its.wt]
    rcases List.mem_cons.1 hx with rfl | hx
    · omega
    · have := Its.wt_mem hx; omega
theorem Its.sz_mem : ∀ {l : List It} {x : It}, x ∈ l → It.sz x ≤ Its.sz l
  | y :: l, x, hx => by
    simp only [Its.sz]
    rcases List.mem_cons.1 hx with rfl | hx
    · omega
    · have := Its.sz_mem hx; omega
end Go.Fw
namespace Go.Fw
set_option linter.unusedVariables false
set_option linter.unusedSimpArgs false
set_option maxRecDepth 100000
theorem Its.len_wt : ∀ l : List It, l.length ≤ Its.wt l
  | [] => by simp
  | x :: l => by
    have := Its.len_wt l
    have := It.wt_eq x
    simp only [Its.wt, List.length_cons]; omega
theorem Its.wt_items {l : List It} {x : It} (h : x ∈ l) : Its.wt x.items ≤ Its.wt l := by
  have := Its.wt_mem h
  have := It.wt_eq x
  omega
theorem Its.sz_items {l : List It} {x : It} (h : x ∈ l) : Its.sz x.items < Its.sz l := by
  have := Its.sz_mem h
  have := It.sz_eq x
  omega
theorem twin_loop (a : List It) (rc : List It → Option (List It)) (ha : a.length ≤ 2147483647) (hrc : ∀ x ∈ a, rc x.items = some x.items) : ∀ (d i k : Nat) (l : List It), i + d = a.length → d < k → l = a.take i → rlp_twin.l1 a rc k l i = some a
  | 0, i, k, l, h, hk, hl => by
    obtain ⟨k, rfl⟩ : ∃ m, k = m + 1 := ⟨k - 1, by omega⟩
    rw [rlp_twin.l1, if_neg (by omega), hl, List.take_of_length_le (by omega)]
  | d + 1, i, k, l, h, hk, hl => by
    obtain ⟨k, rfl⟩ : ∃ m, k = m + 1 := ⟨k - 1, by omega⟩
    have h1 : i < a.length := by omega
    have h5 : l.length = i := by rw [hl, List.length_take]; omega
    rw [rlp_twin.l1, if_pos h1, List.getElem?_eq_getElem h1, Option.bind_some, rlp_clone, Option.bind_some, hrc _ (List.getElem_mem h1), Option.bind_some, if_pos (by simp only [List.length_cons, List.length_nil]; omega), ← It.eta]
    exact twin_loop a rc ha hrc d (i + 1) k _ (by omega) (by omega) (by rw [List.take_add_one, List.getElem?_eq_getElem h1, hl]; rfl)
theorem twin_r : ∀ (k : Nat) (a : List It), Its.sz a < k → Its.wt a ≤ 2147483647 → rlp_twin.r k a = some a
  | 0, a, h, _ => by omega
  | k + 1, a, h, hw => by
    rw [rlp_twin.r, twin_loop a _ (by have := Its.len_wt a; omega) (fun x hx => twin_r k x.items (by have := Its.sz_items hx; omega) (by have := Its.wt_items hx; omega)) a.length 0 _ _ (by omega) (by omega) (by simp), Option.bind_some]
theorem twin_eq {a : List It} (h : Its.wt a ≤ 2147483647) : rlp_twin a = some a := twin_r _ a (by omega) h
theorem number_eq (v : Vector (BitVec 64) 4) : rlp_Number v = some (.mk false (bytesN (val4 v)) []) := by unfold rlp_Number; rw [bytes_eq, Option.bind_some]
theorem rnumber_eq (v : Vector (BitVec 64) 4) : waybillref07_Number v = some (.mk false (bytesN (val4 v)) []) := by unfold waybillref07_Number; rw [rbytes_eq, Option.bind_some]
theorem small_eq (x : BitVec 64) : rlp_Small x = some (.mk false (bytesN (val4 (lim x.toNat))) []) := by unfold rlp_Small; rw [from_eq, Option.bind_some, number_eq, Option.bind_some]
theorem rsmall_eq (x : BitVec 64) : waybillref07_Small x = some (.mk false (bytesN (val4 (lim x.toNat))) []) := by unfold waybillref07_Small; rw [rfrom_eq, Option.bind_some, rnumber_eq, Option.bind_some]
theorem text_eq (x : List (BitVec 8)) : rlp_Text x = some (.mk false x []) := by unfold rlp_Text; rw [rlp_clone, Option.bind_some]
theorem list_eq {l : List It} (h : Its.wt l ≤ 2147483647) : rlp_List l = some (.mk true [] l) := by unfold rlp_List; rw [twin_eq h, Option.bind_some]
end Go.Fw
namespace Go.Fw
set_option linter.unusedVariables false
set_option linter.unusedSimpArgs false
set_option maxRecDepth 100000
def oneB (d : List (BitVec 8)) : Bool := decide (d.length = 1) && small d 0
mutual
def It.enc : It → List (BitVec 8)
  | .mk l d its => if l = true then headB 192 (Its.enc its).length ++ Its.enc its else if oneB d = true then d else headB 128 d.length ++ d
def Its.enc : List It → List (BitVec 8)
  | [] => []
  | x :: xs => It.enc x ++ Its.enc xs
end
mutual
def It.good : It → Prop
  | .mk l d its => (l = true → d = []) ∧ (l = false → its = []) ∧ Its.good its
def Its.good : List It → Prop
  | [] => True
  | x :: xs => It.good x ∧ Its.good xs
end
mutual
def It.w9 : It → Nat
  | .mk _ d its => 9 + d.length + Its.w9 its
def Its.w9 : List It → Nat
  | [] => 0
  | x :: xs => It.w9 x + Its.w9 xs
end
mutual
def It.dep : It → Nat
  | .mk l _ its => if l = true then Its.dep its + 1 else 0
def Its.dep : List It → Nat
  | [] => 0
  | x :: xs => max (It.dep x) (Its.dep xs)
end
theorem It.enc_eq (x : It) : x.enc = if x.list = true then headB 192 (Its.enc x.items).length ++ Its.enc x.items else if oneB x.data = true then x.data else headB 128 x.data.length ++ x.data := by
  cases x; rw [It.enc]; rfl
theorem It.good_eq (x : It) : x.good ↔ (x.list = true → x.data = []) ∧ (x.list = false → x.items = []) ∧ Its.good x.items := by cases x; rw [It.good]; rfl
theorem It.w9_eq (x : It) : x.w9 = 9 + x.data.length + Its.w9 x.items := by cases x; rw [It.w9]; rfl
theorem It.dep_eq (x : It) : x.dep = if x.list = true then Its.dep x.items + 1 else 0 := by cases x; rw [It.dep]; rfl
theorem Its.good_mem : ∀ {l : List It}, Its.good l → ∀ x ∈ l, It.good x
  | [], _, x, hx => by cases hx
  | y :: l, h, x, hx => by
    simp only [Its.good] at h
    rcases List.mem_cons.1 hx with rfl | hx
    · exact h.1
    · exact Its.good_mem h.2 x hx
theorem Its.w9_mem : ∀ {l : List It} {x : It}, x ∈ l → It.w9 x ≤ Its.w9 l
  | y :: l, x, hx => by
    simp only [Its.w9]
    rcases List.mem_cons.1 hx with rfl | hx
    · omega
    · have := Its.w9_mem hx; omega
theorem Its.dep_mem : ∀ {l : List It} {x : It}, x ∈ l → It.dep x ≤ Its.dep l
  | y :: l, x, hx => by
    simp only [Its.dep]
    rcases List.mem_cons.1 hx with rfl | hx
    · omega
    · have := Its.dep_mem hx; omega
theorem Its.dep_drop {l : List It} {i : Nat} (h : i < l.length) : Its.dep (l.drop i) = max (It.dep l[i]) (Its.dep (l.drop (i + 1))) := by rw [drop_cons_at h, Its.dep]
theorem Its.enc_drop {l : List It} {i : Nat} (h : i < l.length) : Its.enc (l.drop i) = It.enc l[i] ++ Its.enc (l.drop (i + 1)) := by rw [drop_cons_at h, Its.enc]
theorem Its.good_drop {l : List It} {i : Nat} (h : i < l.length) : Its.good (l.drop i) ↔ It.good l[i] ∧ Its.good (l.drop (i + 1)) := by rw [drop_cons_at h, Its.good]
mutual
theorem It.wt_w9 : ∀ x : It, x.wt + 1 ≤ x.w9
  | .mk l d its => by
    have := Its.wt_w9 its
    simp only [It.wt, It.w9]; omega
theorem Its.wt_w9 : ∀ l : List It, Its.wt l + l.length ≤ Its.w9 l
  | [] => by simp [Its.wt, Its.w9]
  | x :: l => by
    have := It.wt_w9 x
    have := Its.wt_w9 l
    simp only [Its.wt, Its.w9, List.length_cons]; omega
end
theorem oneB_len {d : List (BitVec 8)} (h : oneB d = true) : d.length = 1 ∧ small d 0 = true := by
  unfold oneB at h
  simpa using h
mutual
theorem It.enc_le : ∀ x : It, x.w9 ≤ 1099511627776 → x.enc.length ≤ x.w9 ∧ 0 < x.enc.length
  | .mk l d its, h => by
    simp only [It.w9] at h ⊢
    have h1 := Its.enc_le its (by omega)
    have h2 := headB_length (c := 192) (n := (Its.enc its).length) (by omega)
    have h3 := headB_length (c := 128) (n := d.length) (by omega)
    rw [It.enc]
    split
    · rw [List.length_append]; omega
    split
    · rename_i h4; have := (oneB_len h4).1; omega
    · rw [List.length_append]; omega
theorem Its.enc_le : ∀ l : List It, Its.w9 l ≤ 1099511627776 → (Its.enc l).length ≤ Its.w9 l
  | [], h => by simp [Its.enc]
  | x :: l, h => by
    simp only [Its.w9] at h ⊢
    have := It.enc_le x (by omega)
    have := Its.enc_le l (by omega)
    rw [Its.enc, List.length_append]; omega
end
theorem odd_good {x : It} (h : x.good) : rlp_odd x = some false := by
  have h := (It.good_eq x).1 h
  unfold rlp_odd
  by_cases hl : x.list = true
  · rw [if_pos hl, h.1 hl, if_neg (by simp), if_pos hl]; rfl
  · rw [if_neg hl, if_neg hl, h.2.1 (by simpa using hl)]; rfl
theorem sound_loop (x : It) (rc : It → Option (Nat × Bool)) (hrc : ∀ y ∈ x.items, rc y = some (y.dep, true)) : ∀ (d i k m : Nat), i + d = x.items.length → d < k → rlp_sound.l1 x rc k m i = some (Lp.go (max m (Its.dep (x.items.drop i))))
  | 0, i, k, m, h, hk => by
    obtain ⟨k, rfl⟩ : ∃ m, k = m + 1 := ⟨k - 1, by omega⟩
    rw [rlp_sound.l1, if_neg (by omega), List.drop_of_length_le (by omega), Its.dep, Nat.max_zero]
  | d + 1, i, k, m, h, hk => by
    obtain ⟨k, rfl⟩ : ∃ m, k = m + 1 := ⟨k - 1, by omega⟩
    have h1 : i < x.items.length := by omega
    rw [rlp_sound.l1, if_pos h1, get0' h1, Option.bind_some, hrc _ (List.getElem_mem h1), Option.bind_some]
    try dsimp only
    rw [if_pos rfl, sound_loop x rc hrc d (i + 1) k _ (by omega) (by omega), Its.dep_drop h1, Nat.max_assoc]
where
  get0' {α : Type} {s : List α} {i : Nat} (h : i < s.length) : s[i]? = some s[i] := List.getElem?_eq_getElem h
theorem sound_r : ∀ (k : Nat) (x : It), x.sz < k → x.good → x.dep ≤ 4611686018427387904 → rlp_sound.r k x = some (x.dep, true)
  | 0, x, h, _, _ => by omega
  | k + 1, x, h, hg, hd => by
    have hg' := (It.good_eq x).1 hg
    have hs := It.sz_eq x
    rw [rlp_sound.r, odd_good hg, Option.bind_some, if_neg (by simp)]
    rw [It.dep_eq] at hd ⊢
    by_cases hl : x.list = true
    · rw [if_pos hl] at hd
      rw [if_pos hl, if_pos hl, sound_loop x _ (fun y hy => sound_r k y (by have := Its.sz_mem hy; omega) (Its.good_mem hg'.2.2 y hy) (by have := Its.dep_mem hy; omega)) x.items.length 0 _ 0 (by omega) (by omega), Option.bind_some]
      try dsimp only
      rw [List.drop_zero, Nat.zero_max, if_pos (by omega)]
    · rw [if_neg hl, if_neg hl]
theorem sound_eq {x : It} (hg : x.good) (hd : x.dep ≤ 4611686018427387904) : rlp_sound x = some (x.dep, true) := sound_r _ x (by omega) hg hd
theorem size_loop (x : It) (rc : It → Option Nat) (hw : (Its.enc x.items).length ≤ 1099511627776) (hrc : ∀ y ∈ x.items, rc y = some y.enc.length) : ∀ (d i k m : Nat), i + d = x.items.length → d < k → m + (Its.enc (x.items.drop i)).length = (Its.enc x.items).length → rlp_size.l1 x rc k m i = some (Its.enc x.items).length
  | 0, i, k, m, h, hk, hm => by
    obtain ⟨k, rfl⟩ : ∃ m, k = m + 1 := ⟨k - 1, by omega⟩
    rw [List.drop_of_length_le (by omega), Its.enc, List.length_nil] at hm
    rw [rlp_size.l1, if_neg (by omega)]
    congr 1
  | d + 1, i, k, m, h, hk, hm => by
    obtain ⟨k, rfl⟩ : ∃ m, k = m + 1 := ⟨k - 1, by omega⟩
    have h1 : i < x.items.length := by omega
    rw [Its.enc_drop h1, List.length_append] at hm
    rw [rlp_size.l1, if_pos h1, List.getElem?_eq_getElem h1, Option.bind_some, hrc _ (List.getElem_mem h1), Option.bind_some, if_pos (by omega)]
    exact size_loop x rc hw hrc d (i + 1) k _ (by omega) (by omega) (by omega)
theorem oneB_get {d : List (BitVec 8)} (h : d.length = 1) : ∃ x, d[0]? = some x ∧ oneB d = decide (x.toNat < 128) := by
  refine ⟨d[0], List.getElem?_eq_getElem (by omega), ?_⟩
  unfold oneB small
  rw [List.getElem?_eq_getElem (by omega)]
  simp [h]
theorem oneB_no {d : List (BitVec 8)} (h : d.length ≠ 1) : oneB d = false := by unfold oneB; simp [h]
theorem size_r : ∀ (k : Nat) (x : It), x.sz < k → x.w9 ≤ 1099511627776 → rlp_size.r k x = some x.enc.length
  | 0, x, h, _ => by omega
  | k + 1, x, h, hw => by
    have hs := It.sz_eq x
    have hw' := It.w9_eq x
    have hle := Its.enc_le x.items (by omega)
    rw [rlp_size.r, It.enc_eq]
    by_cases hl : x.list = true
    · have hh := headB_length (c := 192) (n := (Its.enc x.items).length) (by omega)
      rw [if_pos hl, if_pos hl, size_loop x _ (by omega) (fun y hy => size_r k y (by have := Its.sz_mem hy; omega) (by have := Its.w9_mem hy; omega)) x.items.length 0 _ 0 (by omega) (by omega) (by rw [List.drop_zero]; omega), Option.bind_some, show (192#8 : BitVec 8) = BitVec.ofNat 8 192 by rfl, head_spec 192 _ (by omega), Option.bind_some, if_pos (by omega), List.length_append]
    · rw [if_neg hl, if_neg hl]
      by_cases h1 : x.data.length = 1
      · obtain ⟨c, e1, e2⟩ := oneB_get h1
        rw [if_pos h1, e1, Option.bind_some, Option.bind_some, ← e2]
        by_cases ho : oneB x.data = true
        · rw [if_pos ho, if_pos ho, h1]
        · rw [if_neg ho, if_neg ho, show (128#8 : BitVec 8) = BitVec.ofNat 8 128 by rfl, head_spec 128 _ (by omega), Option.bind_some, List.length_append]
      · rw [if_neg h1, Option.bind_some, if_neg (by simp), oneB_no h1, if_neg (by simp), show (128#8 : BitVec 8) = BitVec.ofNat 8 128 by rfl, head_spec 128 _ (by omega), Option.bind_some, List.length_append]
theorem size_eq {x : It} (hw : x.w9 ≤ 1099511627776) : rlp_size x = some x.enc.length := size_r _ x (by omega) hw
theorem lay_loop (x : It) (rc : List (BitVec 8) → It → Option (List (BitVec 8))) (hrc : ∀ a, a.length ≤ 1099511627776 → ∀ y ∈ x.items, rc a y = some (a ++ y.enc)) (hw : (Its.enc x.items).length ≤ 1099511627776) : ∀ (d i k : Nat) (l : List (BitVec 8)), i + d = x.items.length → d < k → l ++ Its.enc (x.items.drop i) = Its.enc x.items → rlp_lay.l1 x rc k l i = some (Its.enc x.items)
  | 0, i, k, l, h, hk, hl => by
    obtain ⟨k, rfl⟩ : ∃ m, k = m + 1 := ⟨k - 1, by omega⟩
    rw [List.drop_of_length_le (by omega), Its.enc, List.append_nil] at hl
    rw [rlp_lay.l1, if_neg (by omega), hl]
  | d + 1, i, k, l, h, hk, hl => by
    obtain ⟨k, rfl⟩ : ∃ m, k = m + 1 := ⟨k - 1, by omega⟩
    have h1 : i < x.items.length := by omega
    have h2 := congrArg List.length hl
    rw [List.length_append] at h2
    rw [Its.enc_drop h1] at hl
    rw [rlp_lay.l1, if_pos h1, List.getElem?_eq_getElem h1, Option.bind_some, hrc l (by omega) _ (List.getElem_mem h1), Option.bind_some]
    exact lay_loop x rc hrc hw d (i + 1) k _ (by omega) (by omega) (by rw [List.append_assoc]; exact hl)
theorem lay_r : ∀ (k : Nat) (a : List (BitVec 8)) (x : It), x.sz < k → x.w9 ≤ 1099511627776 → a.length ≤ 1099511627776 → rlp_lay.r k a x = some (a ++ x.enc)
  | 0, a, x, h, _, _ => by omega
  | k + 1, a, x, h, hw, ha => by
    have hs := It.sz_eq x
    have hw' := It.w9_eq x
    have hle := Its.enc_le x.items (by omega)
    rw [rlp_lay.r, It.enc_eq]
    have hh2 := headB_length (c := 128) (n := x.data.length) (by omega)
    by_cases hl : x.list = true
    · have hh := headB_length (c := 192) (n := (Its.enc x.items).length) (by omega)
      rw [if_pos hl, if_pos hl, lay_loop x _ (fun a ha y hy => lay_r k a y (by have := Its.sz_mem hy; omega) (by have := Its.w9_mem hy; omega) ha) (by omega) x.items.length 0 _ [] (by omega) (by omega) (by rw [List.drop_zero]; rfl), Option.bind_some, show (192#8 : BitVec 8) = BitVec.ofNat 8 192 by rfl, head_spec 192 _ (by omega), Option.bind_some, if_pos (by omega), if_pos (by rw [List.length_append]; omega), List.append_assoc]
    · rw [if_neg hl, if_neg hl]
      by_cases h1 : x.data.length = 1
      · obtain ⟨c, e1, e2⟩ := oneB_get h1
        rw [if_pos h1, e1, Option.bind_some, Option.bind_some]
        by_cases ho : oneB x.data = true
        · have hc : ¬ 128 ≤ c.toNat := by rw [ho] at e2; have := of_decide_eq_true e2.symm; omega
          rw [if_neg (by simpa using hc), Option.bind_some, if_pos (by omega), if_pos ho]
        · have hc : 128 ≤ c.toNat := by
            by_cases hc : c.toNat < 128
            · exact absurd (by rw [e2]; simpa using hc) ho
            · omega
          rw [if_pos (by simpa using hc), if_neg ho, show (128#8 : BitVec 8) = BitVec.ofNat 8 128 by rfl, head_spec 128 _ (by omega), Option.bind_some, if_pos (by omega), Option.bind_some, if_pos (by rw [List.length_append]; omega), List.append_assoc]
      · rw [if_neg h1, Option.bind_some, if_pos rfl, oneB_no h1, if_neg (by simp), show (128#8 : BitVec 8) = BitVec.ofNat 8 128 by rfl, head_spec 128 _ (by omega), Option.bind_some, if_pos (by omega), Option.bind_some, if_pos (by rw [List.length_append]; omega), List.append_assoc]
theorem lay_eq {x : It} (hw : x.w9 ≤ 1099511627776) : rlp_lay [] x = some x.enc := by
  have := lay_r (x.sz + 1) [] x (by omega) hw (by simp)
  simpa [rlp_lay] using this
end Go.Fw
namespace Go.Fw
set_option linter.unusedVariables false
set_option linter.unusedSimpArgs false
set_option maxRecDepth 100000
mutual
theorem It.w9_wt : ∀ x : It, x.w9 ≤ 9 * x.wt
  | .mk l d its => by
    have := Its.w9_wt its
    simp only [It.wt, It.w9]; omega
theorem Its.w9_wt : ∀ l : List It, Its.w9 l ≤ 9 * Its.wt l
  | [] => by simp [Its.wt, Its.w9]
  | x :: l => by
    have := It.w9_wt x
    have := Its.w9_wt l
    simp only [Its.wt, Its.w9]; omega
end
mutual
theorem It.dep_wt : ∀ x : It, x.dep ≤ x.wt
  | .mk l d its => by
    have := Its.dep_wt its
    simp only [It.wt, It.dep]; split <;> omega
theorem Its.dep_wt : ∀ l : List It, Its.dep l ≤ Its.wt l
  | [] => by simp [Its.wt, Its.dep]
  | x :: l => by
    have := It.dep_wt x
    have := Its.dep_wt l
    simp only [Its.wt, Its.dep]; omega
end
theorem rodd_good {x : It} (h : x.good) : waybillref07_odd x = some false := by
  have h := (It.good_eq x).1 h
  unfold waybillref07_odd
  by_cases hl : x.list = true
  · rw [if_pos hl, h.1 hl]; rfl
  · rw [if_neg hl, h.2.1 (by simpa using hl)]; rfl
theorem odd_bad {x : It} (h : ¬ x.good) : (rlp_odd x = some true ∧ waybillref07_odd x = some true) ∨ (rlp_odd x = some false ∧ waybillref07_odd x = some false ∧ x.list = true ∧ ¬ Its.good x.items) := by
  rw [It.good_eq] at h
  unfold rlp_odd waybillref07_odd
  by_cases hl : x.list = true
  · simp only [hl, if_true]
    by_cases hd : 0 < x.data.length
    · left; simp [hd]
    · right
      have : x.data = [] := List.length_eq_zero_iff.1 (by omega)
      simp [this]
      intro hg
      exact h ⟨fun _ => this, fun e => (by rw [hl] at e; cases e), hg⟩
  · simp only [hl]
    by_cases hi : 0 < x.items.length
    · left; simp [hi]
    · exfalso
      have : x.items = [] := List.length_eq_zero_iff.1 (by omega)
      exact h ⟨fun e => absurd e hl, fun _ => this, by rw [this]; simp [Its.good]⟩
theorem sound_badl (x : It) (rc : It → Option (Nat × Bool)) (hrc : ∀ y ∈ x.items, (y.good → rc y = some (y.dep, true)) ∧ (¬ y.good → rc y = some (0, false))) : ∀ (d i k m : Nat), i + d = x.items.length → d < k → ¬ Its.good (x.items.drop i) → rlp_sound.l1 x rc k m i = some (Lp.ret (some (0, false)))
  | 0, i, k, m, h, hk, hg => by
    rw [List.drop_of_length_le (by omega)] at hg
    exact absurd (by simp [Its.good]) hg
  | d + 1, i, k, m, h, hk, hg => by
    obtain ⟨k, rfl⟩ : ∃ m, k = m + 1 := ⟨k - 1, by omega⟩
    have h1 : i < x.items.length := by omega
    have h2 := hrc _ (List.getElem_mem h1)
    rw [rlp_sound.l1, if_pos h1, List.getElem?_eq_getElem h1, Option.bind_some]
    rw [Its.good_drop h1] at hg
    by_cases hb : (x.items[i]).good
    · rw [h2.1 hb, Option.bind_some]
      try dsimp only
      rw [if_pos rfl]
      exact sound_badl x rc hrc d (i + 1) k _ (by omega) (by omega) (fun e => hg ⟨hb, e⟩)
    · rw [h2.2 hb, Option.bind_some]
      try dsimp only
      rw [if_neg (by simp)]
theorem sound_bad : ∀ (k : Nat) (x : It), x.sz < k → ¬ x.good → x.wt ≤ 2147483647 → rlp_sound.r k x = some (0, false)
  | 0, x, h, _, _ => by omega
  | k + 1, x, h, hg, hw => by
    have hs := It.sz_eq x
    rw [rlp_sound.r]
    rcases odd_bad hg with ⟨h1, _⟩ | ⟨h1, _, h3, h4⟩
    · rw [h1, Option.bind_some, if_pos rfl]
    · have hwi : ∀ y ∈ x.items, y.wt ≤ 2147483647 := fun y hy => by have := Its.wt_mem hy; have := It.wt_eq x; omega
      rw [h1, Option.bind_some, if_neg (by simp), if_pos h3, sound_badl x _ (fun y hy => ⟨fun hy2 => sound_r k y (by have := Its.sz_mem hy; omega) hy2 (by have := hwi y hy; have := It.dep_wt y; omega), fun hy2 => sound_bad k y (by have := Its.sz_mem hy; omega) hy2 (hwi y hy)⟩) x.items.length 0 _ 0 (by omega) (by omega) (by rwa [List.drop_zero]), Option.bind_some]
theorem oddly_loop (x : It) (rc : It → Option Bool) (hrc : ∀ y ∈ x.items, rc y = some false) : ∀ (d i k : Nat), i + d = x.items.length → d < k → waybillref07_oddly.l1 x rc k i = some (Lp.go ())
  | 0, i, k, h, hk => by
    obtain ⟨k, rfl⟩ : ∃ m, k = m + 1 := ⟨k - 1, by omega⟩
    rw [waybillref07_oddly.l1, if_neg (by omega)]
  | d + 1, i, k, h, hk => by
    obtain ⟨k, rfl⟩ : ∃ m, k = m + 1 := ⟨k - 1, by omega⟩
    have h1 : i < x.items.length := by omega
    rw [waybillref07_oddly.l1, if_pos h1, List.getElem?_eq_getElem h1, Option.bind_some, hrc _ (List.getElem_mem h1), Option.bind_some, if_neg (by simp)]
    exact oddly_loop x rc hrc d (i + 1) k (by omega) (by omega)
theorem oddly_good : ∀ (k : Nat) (x : It), x.sz < k → x.good → waybillref07_oddly.r k x = some false
  | 0, x, h, _ => by omega
  | k + 1, x, h, hg => by
    have hs := It.sz_eq x
    have hg' := (It.good_eq x).1 hg
    rw [waybillref07_oddly.r, rodd_good hg, Option.bind_some, if_neg (by simp), oddly_loop x _ (fun y hy => oddly_good k y (by have := Its.sz_mem hy; omega) (Its.good_mem hg'.2.2 y hy)) x.items.length 0 _ (by omega) (by omega), Option.bind_some]
theorem oddly_badl (x : It) (rc : It → Option Bool) (hrc : ∀ y ∈ x.items, (y.good → rc y = some false) ∧ (¬ y.good → rc y = some true)) : ∀ (d i k : Nat), i + d = x.items.length → d < k → ¬ Its.good (x.items.drop i) → waybillref07_oddly.l1 x rc k i = some (Lp.ret (some true))
  | 0, i, k, h, hk, hg => by
    rw [List.drop_of_length_le (by omega)] at hg
    exact absurd (by simp [Its.good]) hg
  | d + 1, i, k, h, hk, hg => by
    obtain ⟨k, rfl⟩ : ∃ m, k = m + 1 := ⟨k - 1, by omega⟩
    have h1 : i < x.items.length := by omega
    have h2 := hrc _ (List.getElem_mem h1)
    rw [waybillref07_oddly.l1, if_pos h1, List.getElem?_eq_getElem h1, Option.bind_some]
    rw [Its.good_drop h1] at hg
    by_cases hb : (x.items[i]).good
    · rw [h2.1 hb, Option.bind_some, if_neg (by simp)]
      exact oddly_badl x rc hrc d (i + 1) k (by omega) (by omega) (fun e => hg ⟨hb, e⟩)
    · rw [h2.2 hb, Option.bind_some, if_pos rfl]
theorem oddly_bad : ∀ (k : Nat) (x : It), x.sz < k → ¬ x.good → waybillref07_oddly.r k x = some true
  | 0, x, h, _ => by omega
  | k + 1, x, h, hg => by
    have hs := It.sz_eq x
    rw [waybillref07_oddly.r]
    rcases odd_bad hg with ⟨_, h1⟩ | ⟨_, h1, h3, h4⟩
    · rw [h1, Option.bind_some, if_pos rfl]
    · rw [h1, Option.bind_some, if_neg (by simp), oddly_badl x _ (fun y hy => ⟨fun hy2 => oddly_good k y (by have := Its.sz_mem hy; omega) hy2, fun hy2 => oddly_bad k y (by have := Its.sz_mem hy; omega) hy2⟩) x.items.length 0 _ (by omega) (by omega) (by rwa [List.drop_zero]), Option.bind_some]
theorem depth_loop (x : It) (rc : It → Option Nat) (hrc : ∀ y ∈ x.items, rc y = some y.dep) : ∀ (d i k m : Nat), i + d = x.items.length → d < k → waybillref07_depth.l1 x rc k m i = some (max m (Its.dep (x.items.drop i)))
  | 0, i, k, m, h, hk => by
    obtain ⟨k, rfl⟩ : ∃ m, k = m + 1 := ⟨k - 1, by omega⟩
    rw [waybillref07_depth.l1, if_neg (by omega), List.drop_of_length_le (by omega), Its.dep, Nat.max_zero]
  | d + 1, i, k, m, h, hk => by
    obtain ⟨k, rfl⟩ : ∃ m, k = m + 1 := ⟨k - 1, by omega⟩
    have h1 : i < x.items.length := by omega
    rw [waybillref07_depth.l1, if_pos h1, List.getElem?_eq_getElem h1, Option.bind_some, hrc _ (List.getElem_mem h1), Option.bind_some, depth_loop x rc hrc d (i + 1) k _ (by omega) (by omega), Its.dep_drop h1, Nat.max_assoc]
theorem depth_r : ∀ (k : Nat) (x : It), x.sz < k → x.dep ≤ 4611686018427387904 → waybillref07_depth.r k x = some x.dep
  | 0, x, h, _ => by omega
  | k + 1, x, h, hd => by
    have hs := It.sz_eq x
    rw [It.dep_eq] at hd ⊢
    rw [waybillref07_depth.r]
    by_cases hl : x.list = true
    · rw [if_pos hl] at hd
      rw [if_pos hl, if_pos hl, depth_loop x _ (fun y hy => depth_r k y (by have := Its.sz_mem hy; omega) (by have := Its.dep_mem hy; omega)) x.items.length 0 _ 0 (by omega) (by omega), Option.bind_some, List.drop_zero, Nat.zero_max, if_pos (by omega), Nat.add_comm]
    · rw [if_neg hl, if_neg hl]
theorem headB_len (n : Nat) : (headB 128 n).length = (headB 192 n).length := by unfold headB; split <;> simp
theorem rsize_loop (x : It) (rc : It → Option Nat) (hw : (Its.enc x.items).length ≤ 1099511627776) (hrc : ∀ y ∈ x.items, rc y = some y.enc.length) (b : Nat) (hb : b ≤ 1099511627776) : ∀ (d i k m : Nat), i + d = x.items.length → d < k → m + (Its.enc (x.items.drop i)).length = b + (Its.enc x.items).length → waybillref07_size.l1 x rc k m i = some (b + (Its.enc x.items).length)
  | 0, i, k, m, h, hk, hm => by
    obtain ⟨k, rfl⟩ : ∃ m, k = m + 1 := ⟨k - 1, by omega⟩
    rw [List.drop_of_length_le (by omega), Its.enc, List.length_nil] at hm
    rw [waybillref07_size.l1, if_neg (by omega)]
    congr 1
  | d + 1, i, k, m, h, hk, hm => by
    obtain ⟨k, rfl⟩ : ∃ m, k = m + 1 := ⟨k - 1, by omega⟩
    have h1 : i < x.items.length := by omega
    rw [Its.enc_drop h1, List.length_append] at hm
    rw [waybillref07_size.l1, if_pos h1, List.getElem?_eq_getElem h1, Option.bind_some, hrc _ (List.getElem_mem h1), Option.bind_some, if_pos (by omega)]
    exact rsize_loop x rc hw hrc b hb d (i + 1) k _ (by omega) (by omega) (by omega)
theorem rsize_r : ∀ (k : Nat) (x : It), x.sz < k → x.good → x.w9 ≤ 1099511627776 → waybillref07_size.r k x = some x.enc.length
  | 0, x, h, _, _ => by omega
  | k + 1, x, h, hg, hw => by
    have hs := It.sz_eq x
    have hw' := It.w9_eq x
    have hg' := (It.good_eq x).1 hg
    have hle := Its.enc_le x.items (by omega)
    have hloop := rsize_loop x (waybillref07_size.r k) (by omega) (fun y hy => rsize_r k y (by have := Its.sz_mem hy; omega) (Its.good_mem hg'.2.2 y hy) (by have := Its.w9_mem hy; omega)) x.data.length (by omega) x.items.length 0 (x.items.length - 0 + 2) x.data.length (by omega) (by omega) (by rw [List.drop_zero])
    have hh := headB_length (c := 128) (n := x.data.length + (Its.enc x.items).length) (by omega)
    rw [waybillref07_size.r, It.enc_eq]
    by_cases hl : x.list = true
    · rw [if_pos hl, if_pos hl, Option.bind_some, if_neg (by simp), hloop, Option.bind_some, before_spec 128 _ (by omega) (by omega), Option.bind_some, if_pos (by omega), headB_len, hg'.1 hl, List.length_nil, Nat.zero_add, List.length_append]
    · have hi : x.items = [] := hg'.2.1 (by simpa using hl)
      have he : (Its.enc x.items).length = 0 := by rw [hi, Its.enc]; rfl
      simp only [he, Nat.add_zero] at hloop hh
      rw [if_neg hl, if_neg hl]
      by_cases h1 : x.data.length = 1
      · obtain ⟨c, e1, e2⟩ := oneB_get h1
        rw [if_pos h1, e1, Option.bind_some, Option.bind_some, ← e2]
        by_cases ho : oneB x.data = true
        · rw [if_pos ho, if_pos ho, h1]
        · rw [if_neg ho, if_neg ho, hloop, Option.bind_some, before_spec 128 _ (by omega) (by omega), Option.bind_some, if_pos (by omega), List.length_append]
      · rw [if_neg h1, Option.bind_some, if_neg (by simp), oneB_no h1, if_neg (by simp), hloop, Option.bind_some, before_spec 128 _ (by omega) (by omega), Option.bind_some, if_pos (by omega), List.length_append]
theorem rsize_eq {x : It} (hg : x.good) (hw : x.w9 ≤ 1099511627776) : waybillref07_size x = some x.enc.length := rsize_r _ x (by omega) hg hw
theorem put_loop1 (x : It) (rc : List (BitVec 8) → It → Option (List (BitVec 8))) (b : List (BitVec 8)) (hb : b.length + (Its.enc x.items).length ≤ 4398046511104) (hrc : ∀ a, a.length ≤ 4398046511104 → ∀ y ∈ x.items, a.length + y.enc.length ≤ 4398046511104 → rc a y = some (a ++ y.enc)) : ∀ (d i k : Nat) (l : List (BitVec 8)), i + d = x.items.length → d < k → l ++ Its.enc (x.items.drop i) = b ++ Its.enc x.items → waybillref07_put.l1 x rc k l i = some (b ++ Its.enc x.items)
  | 0, i, k, l, h, hk, hl => by
    obtain ⟨k, rfl⟩ : ∃ m, k = m + 1 := ⟨k - 1, by omega⟩
    rw [List.drop_of_length_le (by omega), Its.enc, List.append_nil] at hl
    rw [waybillref07_put.l1, if_neg (by omega), hl]
  | d + 1, i, k, l, h, hk, hl => by
    obtain ⟨k, rfl⟩ : ∃ m, k = m + 1 := ⟨k - 1, by omega⟩
    have h1 : i < x.items.length := by omega
    have h2 := congrArg List.length hl
    rw [List.length_append, List.length_append] at h2
    rw [Its.enc_drop h1] at hl h2
    rw [List.length_append] at h2
    rw [waybillref07_put.l1, if_pos h1, List.getElem?_eq_getElem h1, Option.bind_some, hrc l (by omega) _ (List.getElem_mem h1) (by omega), Option.bind_some]
    exact put_loop1 x rc b hb hrc d (i + 1) k _ (by omega) (by omega) (by rw [List.append_assoc]; exact hl)
theorem put_loop2 (x : It) (hg : Its.good x.items) (hw9 : Its.w9 x.items ≤ 1099511627776) : ∀ (d i k m : Nat), i + d = x.items.length → d < k → m + (Its.enc (x.items.drop i)).length = (Its.enc x.items).length → waybillref07_put.l2 x k m i = some (Its.enc x.items).length
  | 0, i, k, m, h, hk, hm => by
    obtain ⟨k, rfl⟩ : ∃ m, k = m + 1 := ⟨k - 1, by omega⟩
    rw [List.drop_of_length_le (by omega), Its.enc, List.length_nil] at hm
    rw [waybillref07_put.l2, if_neg (by omega)]
    congr 1
  | d + 1, i, k, m, h, hk, hm => by
    obtain ⟨k, rfl⟩ : ∃ m, k = m + 1 := ⟨k - 1, by omega⟩
    have h1 : i < x.items.length := by omega
    have hle := Its.enc_le x.items hw9
    have hm1 := List.getElem_mem h1
    rw [Its.enc_drop h1, List.length_append] at hm
    rw [waybillref07_put.l2, if_pos h1, List.getElem?_eq_getElem h1, Option.bind_some, rsize_eq (Its.good_mem hg _ hm1) (by have := Its.w9_mem hm1; omega), Option.bind_some, if_pos (by omega)]
    exact put_loop2 x hg hw9 d (i + 1) k _ (by omega) (by omega) (by omega)
theorem put_r : ∀ (k : Nat) (a : List (BitVec 8)) (x : It), x.sz < k → x.good → x.w9 ≤ 1099511627776 → a.length + x.enc.length ≤ 4398046511104 → waybillref07_put.r k a x = some (a ++ x.enc)
  | 0, a, x, h, _, _, _ => by omega
  | k + 1, a, x, h, hg, hw, ha => by
    have hs := It.sz_eq x
    have hw' := It.w9_eq x
    have hg' := (It.good_eq x).1 hg
    have hle := Its.enc_le x.items (by omega)
    rw [It.enc_eq] at ha ⊢
    rw [waybillref07_put.r]
    have hh2 := headB_length (c := 128) (n := x.data.length) (by omega)
    by_cases hl : x.list = true
    · have hh := headB_length (c := 192) (n := (Its.enc x.items).length) (by omega)
      rw [if_pos hl, List.length_append] at ha
      rw [if_pos hl, if_pos hl, put_loop2 x hg'.2.2 (by omega) x.items.length 0 _ 0 (by omega) (by omega) (by rw [List.drop_zero]; omega), Option.bind_some, before_spec 192 _ (by omega) (by omega), Option.bind_some, if_pos (by omega),
        put_loop1 x _ (a ++ headB 192 (Its.enc x.items).length) (by rw [List.length_append]; omega) (fun a ha y hy hay => put_r k a y (by have := Its.sz_mem hy; omega) (Its.good_mem hg'.2.2 y hy) (by have := Its.w9_mem hy; omega) hay) x.items.length 0 _ _ (by omega) (by omega) (by rw [List.drop_zero]), Option.bind_some, List.append_assoc]
    · rw [if_neg hl] at ha
      rw [if_neg hl, if_neg hl]
      by_cases h1 : x.data.length = 1
      · obtain ⟨c, e1, e2⟩ := oneB_get h1
        rw [if_pos h1, e1, Option.bind_some, Option.bind_some]
        by_cases ho : oneB x.data = true
        · have hc : ¬ 128 ≤ c.toNat := by rw [ho] at e2; have := of_decide_eq_true e2.symm; omega
          rw [if_pos ho] at ha
          rw [if_neg (by simpa using hc), Option.bind_some, if_pos (by omega), if_pos ho]
        · have hc : 128 ≤ c.toNat := by
            by_cases hc : c.toNat < 128
            · exact absurd (by rw [e2]; simpa using hc) ho
            · omega
          rw [if_neg ho, List.length_append] at ha
          rw [if_pos (by simpa using hc), if_neg ho, before_spec 128 _ (by omega) (by omega), Option.bind_some, if_pos (by omega), Option.bind_some, if_pos (by rw [List.length_append]; omega), List.append_assoc]
      · rw [oneB_no h1, if_neg (by simp), List.length_append] at ha
        rw [if_neg h1, Option.bind_some, if_pos rfl, oneB_no h1, if_neg (by simp), before_spec 128 _ (by omega) (by omega), Option.bind_some, if_pos (by omega), Option.bind_some, if_pos (by rw [List.length_append]; omega), List.append_assoc]
theorem check_all (x : It) (hw : x.wt ≤ 2147483647) : ∃ e, rlp_Check x = some e ∧ waybillref07_Check x = some e ∧ (e = 0 → x.good ∧ x.enc.length ≤ 16777216) := by
  have h1 := It.w9_wt x
  have h2 := It.dep_wt x
  unfold rlp_Check waybillref07_Check rlp_sound waybillref07_oddly waybillref07_depth
  by_cases hg : x.good
  · rw [sound_r _ x (by omega) hg (by omega), Option.bind_some]
    dsimp only
    rw [if_pos rfl, oddly_good _ x (by omega) hg, Option.bind_some, if_neg (show ¬ (false = true) by simp), depth_r _ x (by omega) (by omega), Option.bind_some]
    by_cases h3 : 1024 < x.dep
    · rw [if_pos h3, if_pos h3]; exact ⟨74, rfl, rfl, (fun e => by cases e)⟩
    · rw [if_neg h3, if_neg h3, rsize_eq hg (by omega), size_eq (by omega), Option.bind_some]
      by_cases h4 : 16777216 < x.enc.length
      · rw [if_pos h4]; exact ⟨2, rfl, rfl, (fun e => by cases e)⟩
      · rw [if_neg h4]; exact ⟨0, rfl, rfl, fun _ => ⟨hg, by omega⟩⟩
  · rw [sound_bad _ x (by omega) hg hw, Option.bind_some]
    dsimp only
    rw [if_neg (show ¬ (false = true) by simp), oddly_bad _ x (by omega) hg, Option.bind_some, if_pos rfl]
    exact ⟨78, rfl, rfl, (fun e => by cases e)⟩
theorem encodes_all (x : It) (hw : x.wt ≤ 2147483647) : ∃ b e, rlp_Encode x = some (b, e) ∧ waybillref07_Encode x = some (b, e) := by
  have hw9 := It.w9_wt x
  obtain ⟨e, c1, c2, c3⟩ := check_all x hw
  unfold rlp_Encode waybillref07_Encode
  rw [c1, c2, Option.bind_some]
  by_cases he : e = 0
  · obtain ⟨hg, hn⟩ := c3 he
    have hput : waybillref07_put [] x = some x.enc := by
      have := put_r (x.sz + 1) [] x (by omega) hg (by omega) (by simp; omega)
      simpa [waybillref07_put] using this
    rw [if_pos he, lay_eq (by omega), hput]
    exact ⟨_, _, rfl, by subst he; rfl⟩
  · rw [if_neg he]
    refine ⟨_, _, rfl, ?_⟩
    rw [Option.bind_some, if_neg he]
end Go.Fw
namespace Go.Fw
set_option linter.unusedVariables false
set_option linter.unusedSimpArgs false
set_option maxRecDepth 4000
theorem check_gen {x : It} (hg : x.good) (hd : x.dep ≤ 1024) (hw : x.w9 ≤ 1099511627776) (hl : x.enc.length ≤ 16777216) : rlp_Check x = some 0 := by
  unfold rlp_Check
  rw [sound_eq hg (by omega), Option.bind_some]
  try dsimp only
  rw [if_pos rfl, if_neg (by omega), size_eq (by omega), Option.bind_some, if_neg (by omega)]
theorem encode_gen {x : It} (hg : x.good) (hd : x.dep ≤ 1024) (hw : x.w9 ≤ 1099511627776) (hl : x.enc.length ≤ 16777216) : rlp_Encode x = some (x.enc, 0) := by
  unfold rlp_Encode
  rw [check_gen hg hd hw hl, Option.bind_some, if_pos rfl, lay_eq (by omega), Option.bind_some]
theorem size_gen {x : It} (hg : x.good) (hd : x.dep ≤ 1024) (hw : x.w9 ≤ 1099511627776) (hl : x.enc.length ≤ 16777216) : rlp_Size x = some (x.enc.length, 0) := by
  unfold rlp_Size
  rw [check_gen hg hd hw hl, Option.bind_some, if_pos rfl, size_eq (by omega), Option.bind_some]
end Go.Fw
namespace Go.Fw
set_option linter.unusedVariables false
set_option linter.unusedSimpArgs false
set_option maxRecDepth 10000
theorem absorb_loop (a0 : Sponge) : ∀ (d i k : Nat) (w : Sponge), i + d = 136 → d < k → ∃ w', keccak_Sponge_absorb.l1 a0 k i w = some w' ∧ w'.kind = w.kind ∧ w'.long = w.long
  | 0, i, k, w, h, hk => by
    obtain ⟨k, rfl⟩ : ∃ m, k = m + 1 := ⟨k - 1, by omega⟩
    exact ⟨w, by rw [keccak_Sponge_absorb.l1, if_neg (by omega)], rfl, rfl⟩
  | d + 1, i, k, w, h, hk => by
    obtain ⟨k, rfl⟩ : ∃ m, k = m + 1 := ⟨k - 1, by omega⟩
    rw [keccak_Sponge_absorb.l1, if_pos (by omega), Vector.getElem?_eq_getElem (by omega), Option.bind_some, if_pos (by omega), Vector.getElem?_eq_getElem (by omega), Option.bind_some]
    obtain ⟨w', e1, e2, e3⟩ := absorb_loop a0 d (i + 1) k _ (by omega) (by omega)
    exact ⟨w', e1, e2, e3⟩
theorem absorb_total (s : Sponge) : ∃ s', keccak_Sponge_absorb s = some s' ∧ s'.kind = s.kind ∧ s'.long = s.long ∧ s'.held = 0 := by
  unfold keccak_Sponge_absorb
  obtain ⟨w, e1, e2, e3⟩ := absorb_loop s 136 0 (136 - 0 + 2) s (by omega) (by omega)
  rw [e1, Option.bind_some]
  exact ⟨_, rfl, e2, e3, rfl⟩
theorem write_loop : ∀ (n k : Nat) (l : List (BitVec 8)) (w : Sponge), l.length ≤ n → n < k → 0 ≤ w.held → w.held < 136 → ∃ w', keccak_Sponge_Write.l1 k l w = some w' ∧ 0 ≤ w'.held ∧ w'.held < 136 ∧ w'.kind = w.kind ∧ w'.long = w.long
  | n, 0, l, w, hn, hk, h0, h1 => by omega
  | n, k + 1, l, w, hn, hk, h0, h1 => by
    rw [keccak_Sponge_Write.l1]
    by_cases hl : 0 < l.length
    · have hm : 0 < min l.length (136 - w.held.toNat) := by omega
      rw [if_pos hl, if_pos h0, if_pos (by omega), if_pos (Nat.min_le_left ..), if_pos (by constructor <;> (show _ ≤ _; dsimp only; omega))]
      by_cases hf : w.held + ((min l.length (136 - w.held.toNat) : Nat) : Int) = 136
      · rw [if_pos hf]
        obtain ⟨s', e1, e2, e3, e4⟩ := absorb_total ({ ({ w with part := cpV w.part ((w.held).toNat) (l.take (min l.length (136 - ((w.held).toNat)))) } : Sponge) with held := (({ w with part := cpV w.part ((w.held).toNat) (l.take (min l.length (136 - ((w.held).toNat)))) } : Sponge).held + (((min l.length (136 - ((w.held).toNat))) : Nat) : Int)) } : Sponge)
        rw [e1, Option.bind_some, Option.bind_some]
        obtain ⟨w', f1, f2, f3, f4, f5⟩ := write_loop (n - 1) k (l.drop (min l.length (136 - w.held.toNat))) s' (by rw [List.length_drop]; omega) (by omega) (by omega) (by omega)
        exact ⟨w', f1, f2, f3, f4.trans e2, f5.trans e3⟩
      · rw [if_neg hf, Option.bind_some]
        obtain ⟨w', f1, f2, f3, f4, f5⟩ := write_loop (n - 1) k (l.drop (min l.length (136 - w.held.toNat))) ({ ({ w with part := cpV w.part ((w.held).toNat) (l.take (min l.length (136 - ((w.held).toNat)))) } : Sponge) with held := (({ w with part := cpV w.part ((w.held).toNat) (l.take (min l.length (136 - ((w.held).toNat)))) } : Sponge).held + (((min l.length (136 - ((w.held).toNat))) : Nat) : Int)) } : Sponge) (by rw [List.length_drop]; omega) (by omega) (show 0 ≤ w.held + ((min l.length (136 - w.held.toNat) : Nat) : Int) by omega) (show w.held + ((min l.length (136 - w.held.toNat) : Nat) : Int) < 136 by omega)
        exact ⟨w', f1, f2, f3, f4, f5⟩
    · rw [if_neg hl]
      exact ⟨w, rfl, h0, h1, rfl, rfl⟩
theorem write_total (s : Sponge) (l : List (BitVec 8)) (h0 : 0 ≤ s.held) (h1 : s.held < 136) (h2 : -9223372036854775808 ≤ s.long + ((l.length : Nat) : Int) ∧ s.long + ((l.length : Nat) : Int) ≤ 9223372036854775807) : ∃ s', keccak_Sponge_Write s l = some s' ∧ 0 ≤ s'.held ∧ s'.held < 136 ∧ s'.kind = s.kind ∧ s'.long = s.long + ((l.length : Nat) : Int) := by
  unfold keccak_Sponge_Write
  rw [if_pos h2]
  obtain ⟨w, e1, e2, e3, e4, e5⟩ := write_loop l.length (l.length - 0 + 2) l ({ s with long := (s.long + ((l.length : Nat) : Int)) } : Sponge) (Nat.le_refl _) (by omega) h0 h1
  rw [e1, Option.bind_some]
  exact ⟨w, rfl, e2, e3, e4, e5⟩
end Go.Fw
namespace Go.Fw
set_option linter.unusedVariables false
set_option linter.unusedSimpArgs false
set_option maxRecDepth 10000
abbrev V25 := Vector (BitVec 64) 25
def permV (a : V25) : V25 := match keccak_Permute a with
  | some r => r
  | none => a
theorem perm_eq (a : V25) : keccak_Permute a = some (permV a) := rfl
def xin (b : List (BitVec 8)) : Nat → Nat → V25 → V25
  | 0, _, a => a
  | d + 1, i, a => xin b d (i + 1) (a.setIfInBounds (i / 8) ((a[i / 8]?.getD 0#64) ^^^ (((b[i]?.getD 0#8).setWidth 64) <<< (8 * (i % 8)))))
def takeIn (b : List (BitVec 8)) (a : V25) : V25 := permV (xin b 136 0 a)
def soak : Nat → List (BitVec 8) → V25 → V25
  | 0, _, a => a
  | n + 1, l, a => soak n (l.drop 136) (takeIn (l.take 136) a)
def zeroV : V25 := Vector.replicate 25 0#64
theorem soak_snoc : ∀ (n : Nat) (l : List (BitVec 8)) (a : V25), soak (n + 1) l a = takeIn ((l.drop (136 * n)).take 136) (soak n l a)
  | 0, l, a => by rw [soak, soak, soak, Nat.mul_zero, List.drop_zero]
  | n + 1, l, a => by
    rw [soak, soak_snoc n, soak, List.drop_drop]
    congr 3
    omega
theorem soak_congr : ∀ (n : Nat) (l l' : List (BitVec 8)) (a : V25), l.take (136 * n) = l'.take (136 * n) → soak n l a = soak n l' a
  | 0, l, l', a, h => rfl
  | n + 1, l, l', a, h => by
    rw [soak_snoc, soak_snoc]
    have h1 : l.take (136 * n) = l'.take (136 * n) := by
      have := congrArg (List.take (136 * n)) h
      rwa [List.take_take, List.take_take, Nat.min_eq_left (by omega)] at this
    have h2 : (l.drop (136 * n)).take 136 = (l'.drop (136 * n)).take 136 := by
      have := congrArg (List.drop (136 * n)) h
      rwa [List.drop_take, List.drop_take, show 136 * (n + 1) - 136 * n = 136 by omega] at this
    rw [h2, soak_congr n l l' a h1]
theorem absorb_loop_eq (s : Sponge) : ∀ (d i k : Nat) (w : Sponge), i + d = 136 → d < k → keccak_Sponge_absorb.l1 s k i w = some { w with lanes := xin s.part.toList d i w.lanes }
  | 0, i, k, w, h, hk => by
    obtain ⟨k, rfl⟩ : ∃ m, k = m + 1 := ⟨k - 1, by omega⟩
    rw [keccak_Sponge_absorb.l1, if_neg (by omega)]
    rfl
  | d + 1, i, k, w, h, hk => by
    obtain ⟨k, rfl⟩ : ∃ m, k = m + 1 := ⟨k - 1, by omega⟩
    have h1 : i < 136 := by omega
    have h2 : i / 8 < 25 := by omega
    rw [keccak_Sponge_absorb.l1, if_pos h1, Vector.getElem?_eq_getElem h1, Option.bind_some, if_pos h2, Vector.getElem?_eq_getElem h2, Option.bind_some, absorb_loop_eq s d (i + 1) k _ (by omega) (by omega)]
    have e1 : (s.part.toList)[i]? = some s.part[i] := by rw [Vector.getElem?_toList, Vector.getElem?_eq_getElem h1]
    simp only [xin, e1, Option.getD_some, Vector.getElem?_eq_getElem h2]
theorem absorb_eq (s : Sponge) : keccak_Sponge_absorb s = some { s with lanes := takeIn s.part.toList s.lanes, held := 0 } := by
  unfold keccak_Sponge_absorb
  rw [absorb_loop_eq s 136 0 (136 - 0 + 2) s (by omega) (by omega), Option.bind_some, perm_eq, Option.bind_some]
  rfl
structure Took (s : Sponge) (t : List (BitVec 8)) : Prop where
  held : s.held = ((t.length % 136 : Nat) : Int)
  lanes : s.lanes = soak (t.length / 136) t zeroV
  part : s.part.toList.take (t.length % 136) = t.drop (136 * (t.length / 136))
theorem took_loop : ∀ (n k : Nat) (l : List (BitVec 8)) (w : Sponge) (t : List (BitVec 8)), l.length ≤ n → n < k → Took w t → ∃ w', keccak_Sponge_Write.l1 k l w = some w' ∧ Took w' (t ++ l) ∧ w'.kind = w.kind ∧ w'.long = w.long
  | n, 0, l, w, t, hn, hk, ht => by omega
  | n, k + 1, l, w, t, hn, hk, ht => by
    have hq : t.length = 136 * (t.length / 136) + t.length % 136 := (Nat.div_add_mod _ _).symm
    have hm : t.length % 136 < 136 := Nat.mod_lt _ (by decide)
    have hh := ht.held
    rw [keccak_Sponge_Write.l1]
    by_cases hl : 0 < l.length
    · generalize hM : min l.length (136 - w.held.toNat) = M
      have hM' : M = min l.length (136 - t.length % 136) := by rw [← hM, hh]; rfl
      have hMl : M ≤ l.length := by omega
      have hM0 : 0 < M := by omega
      have hN : w.held.toNat = t.length % 136 := by rw [hh]; rfl
      have hlen : (l.take M).length = M := by rw [List.length_take]; omega
      have hfit : t.length % 136 + (l.take M).length ≤ 136 := by omega
      have hcp := cpV_toList w.part (lo := t.length % 136) (l := l.take M) hfit
      have htl : (t ++ l.take M).length = t.length + M := by rw [List.length_append, hlen]
      rw [if_pos hl, if_pos (by omega), if_pos (by omega), if_pos hMl, if_pos (by constructor <;> (show _ ≤ _; dsimp only; omega)), hN]
      have hsplit : t ++ l = (t ++ l.take M) ++ l.drop M := by rw [List.append_assoc, List.take_append_drop]
      by_cases hf : w.held + ((M : Nat) : Int) = 136
      · rw [if_pos hf, absorb_eq, Option.bind_some, Option.bind_some, hsplit]
        have hd : (t.length + M) / 136 = t.length / 136 + 1 := by omega
        have hr : (t.length + M) % 136 = 0 := by omega
        obtain ⟨w', f1, f2, f3, f4⟩ := took_loop (n - 1) k (l.drop M) _ (t ++ l.take M) (by rw [List.length_drop]; omega) (by omega) (⟨by rw [htl, hr]; rfl, by
            rw [htl, hd, soak_snoc]
            show takeIn (cpV w.part (t.length % 136) (l.take M)).toList w.lanes = _
            rw [ht.lanes]
            congr 1
            · have hz : w.part.toList.drop (t.length % 136 + (l.take M).length) = [] := List.drop_eq_nil_of_le (by rw [Vector.length_toList, hlen]; omega)
              have hT : (t.drop (136 * (t.length / 136)) ++ l.take M).take 136 = t.drop (136 * (t.length / 136)) ++ l.take M := List.take_of_length_le (by rw [List.length_append, List.length_drop, hlen]; omega)
              rw [hcp, ht.part, hz, List.drop_append_of_le_length (by omega), List.append_nil, hT]
            · exact soak_congr _ _ _ _ (by rw [List.take_append_of_le_length (by omega)]), by rw [htl, hr, List.take_zero, hd, List.drop_eq_nil_of_le (by rw [htl]; omega)]⟩ : Took ({ ({ ({ w with part := cpV w.part (t.length % 136) (l.take M) } : Sponge) with held := (({ w with part := cpV w.part (t.length % 136) (l.take M) } : Sponge).held + ((M : Nat) : Int)) } : Sponge) with lanes := takeIn (({ ({ w with part := cpV w.part (t.length % 136) (l.take M) } : Sponge) with held := (({ w with part := cpV w.part (t.length % 136) (l.take M) } : Sponge).held + ((M : Nat) : Int)) } : Sponge)).part.toList (({ ({ w with part := cpV w.part (t.length % 136) (l.take M) } : Sponge) with held := (({ w with part := cpV w.part (t.length % 136) (l.take M) } : Sponge).held + ((M : Nat) : Int)) } : Sponge)).lanes, held := 0 } : Sponge) (t ++ l.take M))
        exact ⟨w', f1, f2, f3, f4⟩
      · have hd : (t.length + M) / 136 = t.length / 136 := by omega
        have hr : (t.length + M) % 136 = t.length % 136 + M := by omega
        rw [if_neg hf, Option.bind_some, hsplit]
        obtain ⟨w', f1, f2, f3, f4⟩ := took_loop (n - 1) k (l.drop M) ({ ({ w with part := cpV w.part (t.length % 136) (l.take M) } : Sponge) with held := (({ w with part := cpV w.part (t.length % 136) (l.take M) } : Sponge).held + ((M : Nat) : Int)) } : Sponge) (t ++ l.take M) (by rw [List.length_drop]; omega) (by omega) ⟨by
            show w.held + ((M : Nat) : Int) = _
            rw [htl, hr]; omega, by
            show w.lanes = _
            rw [htl, hd, ht.lanes]
            exact soak_congr _ _ _ _ (by rw [List.take_append_of_le_length (by omega)]), by
            show (cpV w.part (t.length % 136) (l.take M)).toList.take _ = _
            rw [htl, hr, hd, hcp, List.take_left' (by rw [List.length_append, List.length_take, Vector.length_toList]; omega), ht.part, List.drop_append_of_le_length (by omega)]⟩
        exact ⟨w', f1, f2, f3, f4⟩
    · rw [if_neg hl]
      obtain rfl : l = [] := List.length_eq_zero_iff.1 (by omega)
      exact ⟨w, rfl, by rw [List.append_nil]; exact ht, rfl, rfl⟩
theorem write_took (s : Sponge) (t l : List (BitVec 8)) (h : Took s t) (h2 : -9223372036854775808 ≤ s.long + ((l.length : Nat) : Int) ∧ s.long + ((l.length : Nat) : Int) ≤ 9223372036854775807) : ∃ s', keccak_Sponge_Write s l = some s' ∧ Took s' (t ++ l) ∧ s'.kind = s.kind ∧ s'.long = s.long + ((l.length : Nat) : Int) := by
  unfold keccak_Sponge_Write
  rw [if_pos h2]
  obtain ⟨w, e1, e2, e3, e4⟩ := took_loop l.length (l.length - 0 + 2) l ({ s with long := (s.long + ((l.length : Nat) : Int)) } : Sponge) t (Nat.le_refl _) (by omega) ⟨h.held, h.lanes, h.part⟩
  rw [e1, Option.bind_some]
  exact ⟨w, rfl, e2, e3, e4⟩
def padB (r : List (BitVec 8)) (f : BitVec 8) : List (BitVec 8) := (r ++ f :: List.replicate (135 - r.length) 0#8).set 135 ((if r.length = 135 then f else 0#8) ||| 128#8)
def sq (a : V25) : Nat → Nat → Vector (BitVec 8) 32 → Vector (BitVec 8) 32
  | 0, _, w => w
  | d + 1, i, w => sq a d (i + 1) (w.setIfInBounds i (((a[i / 8]?.getD 0#64) >>> (8 * (i % 8))).setWidth 8))
def digestR (t : List (BitVec 8)) (f : BitVec 8) : Vector (BitVec 8) 32 := sq (takeIn (padB (t.drop (136 * (t.length / 136))) f) (soak (t.length / 136) t zeroV)) 32 0 (Vector.replicate 32 0#8)
theorem sum_loop_eq (x : Sponge) : ∀ (d i k : Nat) (w : Vector (BitVec 8) 32), i + d = 32 → d < k → keccak_Sponge_Sum.l1 x k i w = some (sq x.lanes d i w)
  | 0, i, k, w, h, hk => by
    obtain ⟨k, rfl⟩ : ∃ m, k = m + 1 := ⟨k - 1, by omega⟩
    rw [keccak_Sponge_Sum.l1, if_neg (by omega)]
    rfl
  | d + 1, i, k, w, h, hk => by
    obtain ⟨k, rfl⟩ : ∃ m, k = m + 1 := ⟨k - 1, by omega⟩
    have h2 : i / 8 < 25 := by omega
    rw [keccak_Sponge_Sum.l1, if_pos (by omega), if_pos h2, Vector.getElem?_eq_getElem h2, Option.bind_some, sum_loop_eq x d (i + 1) k _ (by omega) (by omega)]
    simp only [sq, Vector.getElem?_eq_getElem h2, Option.getD_some]
theorem set_at {α : Type} (r : List α) (x y : α) (z : List α) {i : Nat} (h : r.length = i) : (r ++ x :: z).set i y = r ++ y :: z := by
  rw [List.set_append_right _ _ (by omega), show i - r.length = 0 by omega, List.set_cons_zero]
theorem ssum_eq (s : Sponge) (t : List (BitVec 8)) (h : Took s t) (f : BitVec 8) (hk : (s.kind = 0 ∧ f = 1#8) ∨ (s.kind = 1 ∧ f = 6#8)) : keccak_Sponge_Sum s = some (digestR t f, s) := by
  have hm : t.length % 136 < 136 := Nat.mod_lt _ (by decide)
  have hh := h.held
  have hN : s.held.toNat = t.length % 136 := by rw [hh]; rfl
  have hkk : 0 ≤ s.kind := by omega
  have hfst : firstL[s.kind.toNat]? = some f := by
    rcases hk with ⟨e, rfl⟩ | ⟨e, rfl⟩ <;> rw [e] <;> rfl
  have hr : (t.drop (136 * (t.length / 136))).length = t.length % 136 := by rw [List.length_drop]; omega
  have hP1 := cpV_toList s.part (lo := t.length % 136) (l := List.replicate (136 - t.length % 136) 0#8) (by rw [List.length_replicate]; omega)
  have hz : s.part.toList.drop (t.length % 136 + (List.replicate (136 - t.length % 136) 0#8).length) = [] := List.drop_eq_nil_of_le (by rw [Vector.length_toList, List.length_replicate]; omega)
  rw [h.part, hz, List.append_nil, show 136 - t.length % 136 = (135 - t.length % 136) + 1 by omega, List.replicate_succ] at hP1
  unfold keccak_Sponge_Sum
  rw [if_pos (by omega), if_pos (by omega)]
  dsimp only
  rw [if_pos (by omega), if_pos (by omega), hN]
  generalize hP : cpV s.part (t.length % 136) (List.replicate (136 - t.length % 136) 0#8) = P
  have hPl : P.toList = t.drop (136 * (t.length / 136)) ++ 0#8 :: List.replicate (135 - t.length % 136) 0#8 := by rw [← hP]; rw [show 136 - t.length % 136 = (135 - t.length % 136) + 1 by omega, List.replicate_succ]; exact hP1
  have hPh : P[t.length % 136]? = some 0#8 := by rw [← Vector.getElem?_toList, hPl, List.getElem?_append_right (by omega), hr, Nat.sub_self]; rfl
  rw [hPh, Option.bind_some, if_pos hkk, hfst, Option.bind_some]
  generalize hS : (Sponge.mk _ _ _ _ _ : Sponge) = S
  rw [absorb_eq, Option.bind_some, sum_loop_eq _ 32 0 _ _ (by omega) (by omega), Option.bind_some]
  have h1 : S.lanes = s.lanes := by rw [← hS]
  have h2 : S.part.toList = padB (t.drop (136 * (t.length / 136))) f := by
    rw [← hS]
    show ((P.setIfInBounds (t.length % 136) (0#8 ^^^ f)).setIfInBounds 135 ((P.setIfInBounds (t.length % 136) (0#8 ^^^ f))[135] ^^^ 128#8)).toList = _
    generalize hQ : P.setIfInBounds (t.length % 136) (0#8 ^^^ f) = Q
    have hQl : Q.toList = t.drop (136 * (t.length / 136)) ++ f :: List.replicate (135 - t.length % 136) 0#8 := by
      rw [← hQ, ← vset, hPl, set_at _ _ _ _ hr, BitVec.zero_xor]
    have hQx : Q[135] = if t.length % 136 = 135 then f else 0#8 := by
      have e1 : Q.toList[135]? = some Q[135] := by rw [Vector.getElem?_toList, Vector.getElem?_eq_getElem (by decide)]
      rw [hQl, List.getElem?_append_right (by omega), hr] at e1
      by_cases c : t.length % 136 = 135
      · rw [if_pos c]
        rw [c] at e1
        exact (Option.some.inj e1).symm
      · rw [if_neg c]
        obtain ⟨j, hj⟩ : ∃ j, 135 - t.length % 136 = j + 1 := ⟨135 - t.length % 136 - 1, by omega⟩
        rw [hj, List.getElem?_cons_succ, List.getElem?_replicate, if_pos (by omega)] at e1
        exact (Option.some.inj e1).symm
    have hf : f ^^^ 128#8 = f ||| 128#8 := by rcases hk with ⟨_, rfl⟩ | ⟨_, rfl⟩ <;> rfl
    have hx : Q[135] ^^^ 128#8 = (if t.length % 136 = 135 then f else 0#8) ||| 128#8 := by
      rw [hQx]
      split
      · exact hf
      · rfl
    rw [hx, ← vset, hQl]
    unfold padB
    rw [hr]
  dsimp only
  rw [h1, h2, h.lanes]
  rfl
theorem digest_loop_eq (a : List (List (BitVec 8))) : ∀ (d i k : Nat) (w : Sponge) (t : List (BitVec 8)), i + d = a.length → d < k → Took w t → 0 ≤ w.long → w.long + (((a.drop i).flatten.length : Nat) : Int) ≤ 9223372036854775807 → ∃ w', keccak_digest.l1 a k i w = some w' ∧ Took w' (t ++ (a.drop i).flatten) ∧ w'.kind = w.kind
  | 0, i, k, w, t, h, hk, ht, h0, hl => by
    obtain ⟨k, rfl⟩ : ∃ m, k = m + 1 := ⟨k - 1, by omega⟩
    refine ⟨w, by rw [keccak_digest.l1, if_neg (by omega)], ?_, rfl⟩
    rw [List.drop_eq_nil_of_le (by omega), List.flatten_nil, List.append_nil]
    exact ht
  | d + 1, i, k, w, t, h, hk, ht, h0, hl => by
    obtain ⟨k, rfl⟩ : ∃ m, k = m + 1 := ⟨k - 1, by omega⟩
    have h1 : i < a.length := by omega
    rw [List.drop_eq_getElem_cons h1, List.flatten_cons, List.length_append] at hl
    obtain ⟨s', e1, e2, e3, e4⟩ := write_took w t a[i] ht ⟨by omega, by omega⟩
    obtain ⟨w', f1, f2, f3⟩ := digest_loop_eq a d (i + 1) k s' (t ++ a[i]) (by omega) (by omega) e2 (by omega) (by omega)
    refine ⟨w', by rw [keccak_digest.l1, if_pos h1, List.getElem?_eq_getElem h1, Option.bind_some, e1, Option.bind_some, f1], ?_, f3.trans e3⟩
    rw [List.drop_eq_getElem_cons h1, List.flatten_cons, ← List.append_assoc]
    exact f2
theorem took_zero (k : Int) : Took (⟨k, Vector.replicate 25 0#64, Vector.replicate 136 0#8, 0, 0⟩ : Sponge) [] := ⟨rfl, rfl, by rw [List.length_nil]; rfl⟩
theorem digest_eq (k : Int) (a : List (List (BitVec 8))) (f : BitVec 8) (hk : (k = 0 ∧ f = 1#8) ∨ (k = 1 ∧ f = 6#8)) (hl : a.flatten.length ≤ 9223372036854775807) : keccak_digest k a = some (digestR a.flatten f) := by
  unfold keccak_digest
  obtain ⟨w, e1, e2, e3⟩ := digest_loop_eq a a.length 0 (a.length - 0 + 2) (⟨k, Vector.replicate 25 0#64, Vector.replicate 136 0#8, 0, 0⟩ : Sponge) [] (by omega) (by omega) (took_zero k) (by show (0 : Int) ≤ 0; omega) (by rw [List.drop_zero]; show (0 : Int) + _ ≤ _; omega)
  rw [List.drop_zero, List.nil_append] at e2
  have e1' : keccak_digest.l1 a (a.length - 0 + 2) 0 ({ (⟨0, (Vector.replicate 25 0#64), (Vector.replicate 136 0#8), 0, 0⟩ : Sponge) with kind := k } : Sponge) = some w := e1
  rw [e1', Option.bind_some, ssum_eq w a.flatten e2 f (by rw [e3]; exact hk), Option.bind_some]
theorem ksum_eq (a : List (List (BitVec 8))) (hl : a.flatten.length ≤ 9223372036854775807) : keccak_Sum a = some (digestR a.flatten 1#8) := by
  unfold keccak_Sum
  rw [digest_eq 0 a 1#8 (.inl ⟨rfl, rfl⟩) hl, Option.bind_some]
end Go.Fw
namespace Go.Fw
set_option linter.unusedVariables false
set_option linter.unusedSimpArgs false
set_option maxRecDepth 10000
theorem filled_loop : ∀ (d k : Nat) (l : List (BitVec 8)), (l.length + d) % 136 = 0 → d < 136 → d < k → l.length + d ≤ 140737488355328 → waybillref02_filled.l1 k l = some (l ++ List.replicate d 0#8)
  | 0, k, l, h, hd, hk, hb => by
    obtain ⟨k, rfl⟩ : ∃ m, k = m + 1 := ⟨k - 1, by omega⟩
    rw [waybillref02_filled.l1, if_pos (by omega)]
    simp
  | d + 1, k, l, h, hd, hk, hb => by
    obtain ⟨k, rfl⟩ : ∃ m, k = m + 1 := ⟨k - 1, by omega⟩
    rw [waybillref02_filled.l1, if_neg (by omega), if_pos (by simp; omega), filled_loop d k _ (by simp; omega) (by omega) (by omega) (by simp; omega), List.append_assoc, List.replicate_succ]
    rfl
theorem padB_len (r : List (BitVec 8)) (f : BitVec 8) (h : r.length ≤ 135) : (padB r f).length = 136 := by unfold padB; simp; omega
theorem filled_eq (t : List (BitVec 8)) (f : BitVec 8) (ht : t.length + 137 ≤ 140737488355328) : waybillref02_filled t f = some (t.take (136 * (t.length / 136)) ++ padB (t.drop (136 * (t.length / 136))) f) := by
  have hm : t.length % 136 < 136 := Nat.mod_lt _ (by decide)
  have hq : t.length = 136 * (t.length / 136) + t.length % 136 := (Nat.div_add_mod _ _).symm
  have hr : (t.drop (136 * (t.length / 136))).length = t.length % 136 := by rw [List.length_drop]; omega
  have hlen : (t ++ [f]).length = t.length + 1 := by simp
  unfold waybillref02_filled
  rw [if_pos (by simp; omega), filled_loop (135 - t.length % 136) 140 (t ++ [f]) (by omega) (by omega) (by omega) (by omega), Option.bind_some]
  have hL : t ++ [f] ++ List.replicate (135 - t.length % 136) 0#8 = t.take (136 * (t.length / 136)) ++ (t.drop (136 * (t.length / 136)) ++ f :: List.replicate (135 - t.length % 136) 0#8) := by
    rw [← List.append_assoc, List.take_append_drop, List.append_assoc]
    rfl
  have hLl : (t ++ [f] ++ List.replicate (135 - t.length % 136) 0#8).length = 136 * (t.length / 136) + 136 := by simp; omega
  have hi : ((((t ++ [f] ++ List.replicate (135 - t.length % 136) 0#8).length : Nat) : Int) - (1 : Int)).toNat = 136 * (t.length / 136) + 135 := by rw [hLl]; omega
  have htk : (t.take (136 * (t.length / 136))).length = 136 * (t.length / 136) := by rw [List.length_take]; omega
  have hx : (t ++ [f] ++ List.replicate (135 - t.length % 136) 0#8)[136 * (t.length / 136) + 135]? = some (if t.length % 136 = 135 then f else 0#8) := by
    rw [hL, List.getElem?_append_right (by omega), htk, show 136 * (t.length / 136) + 135 - 136 * (t.length / 136) = 135 by omega, List.getElem?_append_right (by omega), hr]
    by_cases c : t.length % 136 = 135
    · rw [if_pos c, c]; rfl
    · rw [if_neg c]
      obtain ⟨j, hj⟩ : ∃ j, 135 - t.length % 136 = j + 1 := ⟨135 - t.length % 136 - 1, by omega⟩
      rw [hj, List.getElem?_cons_succ, List.getElem?_replicate, if_pos (by omega)]
  rw [if_pos (by omega), hi, hx, Option.bind_some, Option.bind_some, hL, List.set_append_right _ _ (by omega), htk, show 136 * (t.length / 136) + 135 - 136 * (t.length / 136) = 135 by omega]
  unfold padB
  rw [hr]
theorem rin_loop (F : List (BitVec 8)) (n : Nat) (hn : n + 136 ≤ F.length) : ∀ (d i k : Nat) (w : V25), i + d = 136 → d < k → waybillref02_Digest.l3 F n k i w = some (xin ((F.drop n).take 136) d i w)
  | 0, i, k, w, h, hk => by
    obtain ⟨k, rfl⟩ : ∃ m, k = m + 1 := ⟨k - 1, by omega⟩
    rw [waybillref02_Digest.l3, if_neg (by omega)]
    rfl
  | d + 1, i, k, w, h, hk => by
    obtain ⟨k, rfl⟩ : ∃ m, k = m + 1 := ⟨k - 1, by omega⟩
    have h2 : i / 8 < 25 := by omega
    have h3 : n + i < F.length := by omega
    have h4 : ((F.drop n).take 136)[i]? = some F[n + i] := by rw [List.getElem?_take, if_pos (by omega), List.getElem?_drop, List.getElem?_eq_getElem h3]
    have h5 : (BitVec.ofNat 64 (8 * (i % 8))).toNat = 8 * (i % 8) := by rw [BitVec.toNat_ofNat]; omega
    rw [waybillref02_Digest.l3, if_pos (by omega), if_pos h2, Vector.getElem?_eq_getElem h2, Option.bind_some, List.getElem?_eq_getElem h3, Option.bind_some, rin_loop F n hn d (i + 1) k _ (by omega) (by omega), h5]
    simp only [xin, h4, Vector.getElem?_eq_getElem h2, Option.getD_some]
theorem rblk_loop (F : List (BitVec 8)) : ∀ (d j k : Nat) (w : V25), 136 * (j + d) = F.length → d < k → waybillref02_Digest.l2 F k (136 * j) w = some (soak d (F.drop (136 * j)) w)
  | 0, j, k, w, h, hk => by
    obtain ⟨k, rfl⟩ : ∃ m, k = m + 1 := ⟨k - 1, by omega⟩
    rw [waybillref02_Digest.l2, if_neg (by omega)]
    rfl
  | d + 1, j, k, w, h, hk => by
    obtain ⟨k, rfl⟩ : ∃ m, k = m + 1 := ⟨k - 1, by omega⟩
    rw [waybillref02_Digest.l2, if_pos (by omega), rin_loop F _ (by omega) 136 0 (136 - 0 + 2) w (by omega) (by omega), Option.bind_some, perm_eq, Option.bind_some, show 136 * j + 136 = 136 * (j + 1) by omega, rblk_loop F d (j + 1) k _ (by omega) (by omega), soak, List.drop_drop, show 136 * j + 136 = 136 * (j + 1) by omega]
    rfl
theorem rsq_loop (x : V25) : ∀ (d i k : Nat) (w : Vector (BitVec 8) 32), i + d = 32 → d < k → waybillref02_Digest.l1 x k i w = some (sq x d i w)
  | 0, i, k, w, h, hk => by
    obtain ⟨k, rfl⟩ : ∃ m, k = m + 1 := ⟨k - 1, by omega⟩
    rw [waybillref02_Digest.l1, if_neg (by omega)]
    rfl
  | d + 1, i, k, w, h, hk => by
    obtain ⟨k, rfl⟩ : ∃ m, k = m + 1 := ⟨k - 1, by omega⟩
    have h2 : i / 8 < 25 := by omega
    have h5 : (BitVec.ofNat 64 (8 * (i % 8))).toNat = 8 * (i % 8) := by rw [BitVec.toNat_ofNat]; omega
    rw [waybillref02_Digest.l1, if_pos (by omega), if_pos h2, Vector.getElem?_eq_getElem h2, Option.bind_some, rsq_loop x d (i + 1) k _ (by omega) (by omega), h5]
    simp only [sq, Vector.getElem?_eq_getElem h2, Option.getD_some]
theorem rdigest_eq (t : List (BitVec 8)) (f : BitVec 8) (ht : t.length + 137 ≤ 140737488355328) : waybillref02_Digest t f = some (digestR t f) := by
  have hm : t.length % 136 < 136 := Nat.mod_lt _ (by decide)
  have hq : t.length = 136 * (t.length / 136) + t.length % 136 := (Nat.div_add_mod _ _).symm
  have hr : (t.drop (136 * (t.length / 136))).length = t.length % 136 := by rw [List.length_drop]; omega
  have htk : (t.take (136 * (t.length / 136))).length = 136 * (t.length / 136) := by rw [List.length_take]; omega
  have hp := padB_len (t.drop (136 * (t.length / 136))) f (by omega)
  unfold waybillref02_Digest
  rw [filled_eq t f ht, Option.bind_some]
  generalize hF : t.take (136 * (t.length / 136)) ++ padB (t.drop (136 * (t.length / 136))) f = F
  have hFl : F.length = 136 * (t.length / 136 + 1) := by rw [← hF, List.length_append, htk, hp]; omega
  have h2 := rblk_loop F (t.length / 136 + 1) 0 (F.length - 0 + 2) zeroV (by omega) (by omega)
  rw [Nat.mul_zero, List.drop_zero] at h2
  have h2' : waybillref02_Digest.l2 F (F.length - 0 + 2) 0 (Vector.replicate 25 0#64) = some (soak (t.length / 136 + 1) F zeroV) := h2
  rw [h2', Option.bind_some, rsq_loop _ 32 0 (32 - 0 + 2) _ (by omega) (by omega), Option.bind_some, soak_snoc]
  have h3 : (F.drop (136 * (t.length / 136))).take 136 = padB (t.drop (136 * (t.length / 136))) f := by
    rw [← hF, List.drop_left' htk, List.take_of_length_le (by omega)]
  have h4 : soak (t.length / 136) F zeroV = soak (t.length / 136) t zeroV := soak_congr _ _ _ _ (by rw [← hF, List.take_left' htk])
  rw [h3, h4]
  rfl
theorem joined_loop (a : List (List (BitVec 8))) : ∀ (d i k : Nat) (l : List (BitVec 8)), i + d = a.length → d < k → l.length + (a.drop i).flatten.length ≤ 140737488355328 → waybillref02_joined.l1 a k l i = some (l ++ (a.drop i).flatten)
  | 0, i, k, l, h, hk, hb => by
    obtain ⟨k, rfl⟩ : ∃ m, k = m + 1 := ⟨k - 1, by omega⟩
    rw [waybillref02_joined.l1, if_neg (by omega), List.drop_eq_nil_of_le (by omega)]
    simp
  | d + 1, i, k, l, h, hk, hb => by
    obtain ⟨k, rfl⟩ : ∃ m, k = m + 1 := ⟨k - 1, by omega⟩
    have h1 : i < a.length := by omega
    rw [List.drop_eq_getElem_cons h1, List.flatten_cons, List.length_append] at hb
    rw [waybillref02_joined.l1, if_pos h1, List.getElem?_eq_getElem h1, Option.bind_some, if_pos (by omega), joined_loop a d (i + 1) k _ (by omega) (by omega) (by rw [List.length_append]; omega), List.drop_eq_getElem_cons h1, List.flatten_cons, List.append_assoc]
theorem joined_eq (a : List (List (BitVec 8))) (hb : a.flatten.length ≤ 140737488355328) : waybillref02_joined a = some a.flatten := by
  unfold waybillref02_joined
  rw [joined_loop a a.length 0 (a.length - 0 + 2) [] (by omega) (by omega) (by rw [List.drop_zero, List.length_nil]; omega), Option.bind_some, List.drop_zero, List.nil_append]
theorem rsum_eq (a : List (List (BitVec 8))) (hb : a.flatten.length + 137 ≤ 140737488355328) : waybillref02_Sum a = some (digestR a.flatten 1#8) := by
  unfold waybillref02_Sum
  rw [joined_eq a (by omega), Option.bind_some, rdigest_eq _ _ hb, Option.bind_some]
end Go.Fw
namespace Go.Fw
set_option linter.unusedVariables false
set_option linter.unusedSimpArgs false
set_option maxRecDepth 10000
theorem ssum_loop (x : Sponge) : ∀ (d i k : Nat) (w : Vector (BitVec 8) 32), i + d = 32 → d < k → ∃ w', keccak_Sponge_Sum.l1 x k i w = some w'
  | 0, i, k, w, h, hk => by
    obtain ⟨k, rfl⟩ : ∃ m, k = m + 1 := ⟨k - 1, by omega⟩
    exact ⟨w, by rw [keccak_Sponge_Sum.l1, if_neg (by omega)]⟩
  | d + 1, i, k, w, h, hk => by
    obtain ⟨k, rfl⟩ : ∃ m, k = m + 1 := ⟨k - 1, by omega⟩
    rw [keccak_Sponge_Sum.l1, if_pos (by omega), if_pos (by omega), Vector.getElem?_eq_getElem (by omega), Option.bind_some]
    exact ssum_loop x d (i + 1) k _ (by omega) (by omega)
theorem ssum_total (s : Sponge) (h0 : 0 ≤ s.held) (h1 : s.held < 136) (hk : s.kind = 0 ∨ s.kind = 1) : ∃ r, keccak_Sponge_Sum s = some r := by
  unfold keccak_Sponge_Sum
  rw [if_pos h0, if_pos (by omega)]
  dsimp only
  have hf : ∃ f, firstL[s.kind.toNat]? = some f := by
    rcases hk with e | e <;> rw [e]
    · exact ⟨1#8, rfl⟩
    · exact ⟨6#8, rfl⟩
  obtain ⟨f, hf⟩ := hf
  rw [if_pos h0, if_pos (by omega), Vector.getElem?_eq_getElem (by omega), Option.bind_some, if_pos (by omega), hf, Option.bind_some]
  generalize hS : (Sponge.mk _ _ _ _ _ : Sponge) = S
  obtain ⟨s', e1, _⟩ := absorb_total S
  rw [e1, Option.bind_some]
  obtain ⟨w', e2⟩ := ssum_loop s' 32 0 (32 - 0 + 2) (Vector.replicate 32 0#8) (by omega) (by omega)
  rw [e2, Option.bind_some]
  exact ⟨_, rfl⟩
theorem sum_total (t : List (BitVec 8)) (ht : t.length ≤ 140737488355328) : ∃ h, keccak_Sum [t] = some h := by
  unfold keccak_Sum keccak_digest
  obtain ⟨w, e1, e2, e3, e4, e5⟩ := write_total ({ (⟨0, (Vector.replicate 25 0#64), (Vector.replicate 136 0#8), 0, 0⟩ : Sponge) with kind := (0 : Int) } : Sponge) t (by show (0 : Int) ≤ 0; omega) (by show (0 : Int) < 136; omega) (by show -9223372036854775808 ≤ (0 : Int) + _ ∧ (0 : Int) + _ ≤ _; omega)
  have hl : keccak_digest.l1 [t] ([t].length - 0 + 2) 0 ({ (⟨0, (Vector.replicate 25 0#64), (Vector.replicate 136 0#8), 0, 0⟩ : Sponge) with kind := (0 : Int) } : Sponge) = some w := by
    show keccak_digest.l1 [t] (2 + 1) 0 _ = some w
    rw [keccak_digest.l1, if_pos (by simp)]
    show (some t).bind _ = _
    rw [Option.bind_some, e1, Option.bind_some, keccak_digest.l1, if_neg (by simp)]
  rw [hl, Option.bind_some]
  obtain ⟨⟨h, w'⟩, e6⟩ := ssum_total w e2 e3 (.inl e4)
  rw [e6, Option.bind_some]
  exact ⟨h, rfl⟩
theorem places_total (t : List (BitVec 8)) (ht : t.length ≤ 140737488355328) : ∃ p : Vector Int 3, bloom_Places t = some p ∧ ∀ (i : Nat) (h : i < 3), 0 ≤ p[i] ∧ p[i] < (2048 : Int) := by
  unfold bloom_Places
  obtain ⟨h, e⟩ := sum_total t ht
  rw [e, Option.bind_some]
  have loop : ∀ (d i k : Nat) (w : Vector Int 3), i + d = 3 → d < k → (∀ (j : Nat) (hj : j < 3), 0 ≤ w[j] ∧ w[j] < (2048 : Int)) → ∃ p, bloom_Places.l1 h k i w = some p ∧ ∀ (j : Nat) (hj : j < 3), 0 ≤ p[j] ∧ p[j] < (2048 : Int) := by
    intro d
    induction d with
    | zero =>
      intro i k w h1 h2 h3
      obtain ⟨k, rfl⟩ : ∃ m, k = m + 1 := ⟨k - 1, by omega⟩
      exact ⟨w, by rw [bloom_Places.l1, if_neg (by omega)], h3⟩
    | succ d ih =>
      intro i k w h1 h2 h3
      obtain ⟨k, rfl⟩ : ∃ m, k = m + 1 := ⟨k - 1, by omega⟩
      rw [bloom_Places.l1, if_pos (by omega), if_pos (by omega), Vector.getElem?_eq_getElem (by omega), Option.bind_some, if_pos (by omega), Vector.getElem?_eq_getElem (by omega), Option.bind_some]
      refine ih (i + 1) k _ (by omega) (by omega) fun j hj => ?_
      rw [Vector.getElem_setIfInBounds]
      split
      · omega
      · exact h3 j hj
  obtain ⟨p, e1, e2⟩ := loop 3 0 (3 - 0 + 2) (Vector.replicate 3 0) (by omega) (by omega) (by intro j hj; simp)
  rw [e1, Option.bind_some]
  exact ⟨p, rfl, e2⟩
end Go.Fw
namespace Go.Fw
set_option linter.unusedVariables false
set_option linter.unusedSimpArgs false
set_option maxRecDepth 10000
def bitV (b : Vector (BitVec 8) 256) (k : Nat) : Bool := (b[255 - k / 8]'(by omega)).getLsbD (k % 8)
theorem place_eq (k : Nat) (hk : k < 2048) : ((255 : Int) - ((((k : Nat) : Int).toNat / 8 : Nat) : Int)).toNat = 255 - k / 8 := by omega
theorem set_eq (b : Vector (BitVec 8) 256) (j : Nat) (hj : j < 2048) : ∃ b', bloom_set b ((j : Nat) : Int) = some b' ∧ ∀ k, k < 2048 → bitV b' k = (bitV b k || decide (k = j)) := by
  unfold bloom_set
  rw [if_pos (by omega), if_pos (by omega), place_eq j hj, if_pos (by omega), Vector.getElem?_eq_getElem (by omega), Option.bind_some, Int.toNat_natCast]
  refine ⟨_, rfl, fun k hk => ?_⟩
  unfold bitV
  rw [Vector.getElem_setIfInBounds]
  by_cases h : 255 - j / 8 = 255 - k / 8
  · rw [if_pos h, BitVec.getLsbD_or, BitVec.getLsbD_shiftLeft]
    have e : b[255 - j / 8] = b[255 - k / 8]'(by omega) := by congr 1
    rw [e]
    congr 1
    by_cases h2 : k = j
    · subst h2
      have : k % 8 < 8 := by omega
      simp [this]
    · have : k % 8 ≠ j % 8 := by omega
      rw [decide_eq_false h2]
      by_cases h3 : k % 8 < j % 8
      · simp [h3]
      · have : 0 < k % 8 - j % 8 := by omega
        have h4 : (1#8).getLsbD (k % 8 - j % 8) = false := by
          have : ∀ d, 0 < d → (1#8 : BitVec 8).getLsbD d = false := by
            intro d hd
            rw [BitVec.getLsbD_one]
            simp; omega
          exact this _ (by omega)
        rw [h4]; simp
  · rw [if_neg h]
    have : k ≠ j := fun e => h (by rw [e])
    simp [this]
theorem zero_bits (k : Nat) : bitV (Vector.replicate 256 0#8) k = false := by unfold bitV; simp
def inP (p : Vector Int 3) (k : Nat) : Bool := decide (p[0] = (k : Int)) || decide (p[1] = (k : Int)) || decide (p[2] = (k : Int))
theorem add_eq (b : Vector (BitVec 8) 256) (t : List (BitVec 8)) (p : Vector Int 3) (hp : bloom_Places t = some p) (hr : ∀ (i : Nat) (h : i < 3), 0 ≤ p[i] ∧ p[i] < (2048 : Int)) : ∃ b', bloom_Add b t = some b' ∧ ∀ k, k < 2048 → bitV b' k = (bitV b k || inP p k) := by
  unfold bloom_Add
  rw [hp, Option.bind_some]
  have r0 := hr 0 (by omega)
  have r1 := hr 1 (by omega)
  have r2 := hr 2 (by omega)
  obtain ⟨a0, e0⟩ : ∃ n : Nat, p[0] = (n : Int) := ⟨p[0].toNat, by omega⟩
  obtain ⟨a1, e1⟩ : ∃ n : Nat, p[1] = (n : Int) := ⟨p[1].toNat, by omega⟩
  obtain ⟨a2, e2⟩ : ∃ n : Nat, p[2] = (n : Int) := ⟨p[2].toNat, by omega⟩
  rw [e0] at r0; rw [e1] at r1; rw [e2] at r2
  obtain ⟨b1, f1, g1⟩ := set_eq b a0 (by omega)
  obtain ⟨b2, f2, g2⟩ := set_eq b1 a1 (by omega)
  obtain ⟨b3, f3, g3⟩ := set_eq b2 a2 (by omega)
  have h : bloom_Add.l1 p (3 - 0 + 2) 0 b = some b3 := by
    show bloom_Add.l1 p (4 + 1) 0 b = _
    rw [bloom_Add.l1, if_pos (by omega), Vector.getElem?_eq_getElem (by omega), Option.bind_some, e0, if_pos (by omega), f1, Option.bind_some]
    rw [bloom_Add.l1, if_pos (by omega), Vector.getElem?_eq_getElem (by omega), Option.bind_some]
    show (if -9223372036854775808 ≤ p[1] ∧ p[1] ≤ 9223372036854775807 then (bloom_set b1 p[1]).bind _ else none) = _
    rw [e1, if_pos (by omega), f2, Option.bind_some]
    rw [bloom_Add.l1, if_pos (by omega), Vector.getElem?_eq_getElem (by omega), Option.bind_some]
    show (if -9223372036854775808 ≤ p[2] ∧ p[2] ≤ 9223372036854775807 then (bloom_set b2 p[2]).bind _ else none) = _
    rw [e2, if_pos (by omega), f3, Option.bind_some]
    rw [bloom_Add.l1, if_neg (by omega)]
  rw [h, Option.bind_some]
  refine ⟨b3, rfl, fun k hk => ?_⟩
  rw [g3 k hk, g2 k hk, g1 k hk]
  unfold inP
  rw [e0, e1, e2]
  have c : ∀ m : Nat, decide (k = m) = decide ((m : Int) = (k : Int)) := fun m => decide_eq_decide.2 (by omega)
  rw [c, c, c]
  cases bitV b k <;> cases decide ((a0 : Int) = (k : Int)) <;> cases decide ((a1 : Int) = (k : Int)) <;> cases decide ((a2 : Int) = (k : Int)) <;> rfl
end Go.Fw
namespace Go.Fw
set_option linter.unusedVariables false
set_option linter.unusedSimpArgs false
set_option maxRecDepth 10000
def inT (t : List (BitVec 8)) (k : Nat) : Bool := match bloom_Places t with
  | some p => inP p k
  | none => false
def inL (l : List (List (BitVec 8))) (k : Nat) : Bool := l.any (fun t => inT t k)
theorem of_loop (a : List (List (BitVec 8))) (ha : ∀ t ∈ a, t.length ≤ 140737488355328) : ∀ (d i k : Nat) (w : Vector (BitVec 8) 256), i + d = a.length → d < k → (∀ q, q < 2048 → bitV w q = inL (a.take i) q) → ∃ w', bloom_Of.l1 a k i w = some w' ∧ ∀ q, q < 2048 → bitV w' q = inL a q
  | 0, i, k, w, h, hk, hw => by
    obtain ⟨k, rfl⟩ : ∃ m, k = m + 1 := ⟨k - 1, by omega⟩
    refine ⟨w, by rw [bloom_Of.l1, if_neg (by omega)], ?_⟩
    rwa [List.take_of_length_le (by omega)] at hw
  | d + 1, i, k, w, h, hk, hw => by
    obtain ⟨k, rfl⟩ : ∃ m, k = m + 1 := ⟨k - 1, by omega⟩
    have h1 : i < a.length := by omega
    obtain ⟨p, e1, e2⟩ := places_total a[i] (ha _ (List.getElem_mem h1))
    obtain ⟨b', f1, f2⟩ := add_eq w a[i] p e1 e2
    rw [bloom_Of.l1, if_pos h1, List.getElem?_eq_getElem h1, Option.bind_some, f1, Option.bind_some]
    refine of_loop a ha d (i + 1) k b' (by omega) (by omega) fun q hq => ?_
    rw [f2 q hq, hw q hq, List.take_add_one, List.getElem?_eq_getElem h1]
    unfold inL
    rw [List.any_append]
    simp [inT, e1]
theorem of_eq (a : List (List (BitVec 8))) (ha : ∀ t ∈ a, t.length ≤ 140737488355328) : ∃ b, bloom_Of a = some b ∧ (∀ q, q < 2048 → bitV b q = inL a q) ∧ (a = [] → b = Vector.replicate 256 0#8) := by
  unfold bloom_Of
  by_cases h0 : a = []
  · subst h0
    refine ⟨Vector.replicate 256 0#8, rfl, fun q _ => by rw [zero_bits]; rfl, fun _ => rfl⟩
  · obtain ⟨w, e1, e2⟩ := of_loop a ha a.length 0 (a.length - 0 + 2) (Vector.replicate 256 0#8) (by omega) (by omega) (fun q _ => by rw [zero_bits]; simp [inL])
    rw [e1, Option.bind_some]
    exact ⟨w, rfl, e2, fun h => absurd h h0⟩
end Go.Fw
namespace Go.Fw
set_option linter.unusedVariables false
set_option linter.unusedSimpArgs false
set_option maxRecDepth 10000
theorem rpl_loop (x : Vector (BitVec 8) 32) : ∀ (k n : Nat) (w : Vector Int 3), waybillref10_Places.l1 x k n w = bloom_Places.l1 x k n w
  | 0, n, w => rfl
  | k + 1, n, w => by
    rw [waybillref10_Places.l1, bloom_Places.l1]
    simp only [rpl_loop x k]
theorem rplaces_eq (t : List (BitVec 8)) (ht : t.length + 137 ≤ 140737488355328) : waybillref10_Places t = bloom_Places t := by
  unfold waybillref10_Places bloom_Places
  rw [rsum_eq [t] (by simpa using ht), ksum_eq [t] (by simp; omega), Option.bind_some, Option.bind_some, rpl_loop]
theorem rset_eq (b : Vector (BitVec 8) 256) (a : Int) : waybillref10_set b a = bloom_set b a := by
  have h : (BitVec.ofNat 64 (a.toNat % 8)).toNat = a.toNat % 8 := by rw [BitVec.toNat_ofNat]; omega
  unfold waybillref10_set bloom_set
  rw [h]
theorem radd_eq (b : Vector (BitVec 8) 256) (t : List (BitVec 8)) (ht : t.length + 137 ≤ 140737488355328) : waybillref10_Add b t = bloom_Add b t := by
  obtain ⟨p, e1, e2⟩ := places_total t (by omega)
  have r0 := e2 0 (by omega)
  have r1 := e2 1 (by omega)
  have r2 := e2 2 (by omega)
  obtain ⟨n0, h0⟩ : ∃ n : Nat, p[0] = (n : Int) := ⟨p[0].toNat, by omega⟩
  obtain ⟨n1, h1⟩ : ∃ n : Nat, p[1] = (n : Int) := ⟨p[1].toNat, by omega⟩
  obtain ⟨n2, h2⟩ : ∃ n : Nat, p[2] = (n : Int) := ⟨p[2].toNat, by omega⟩
  obtain ⟨b0, f0, _⟩ := set_eq b n0 (by omega)
  obtain ⟨b1, f1, _⟩ := set_eq b0 n1 (by omega)
  obtain ⟨b2, f2, _⟩ := set_eq b1 n2 (by omega)
  unfold waybillref10_Add bloom_Add
  rw [rplaces_eq t ht, e1, Option.bind_some, Option.bind_some, if_pos (by omega), rset_eq, h0, f0, Option.bind_some, if_pos (by omega), rset_eq, h1, f1, Option.bind_some, if_pos (by omega), rset_eq, h2, f2, Option.bind_some]
  have g0 : p[0]? = some (n0 : Int) := by rw [Vector.getElem?_eq_getElem (by omega), h0]
  have g1 : p[0 + 1]? = some (n1 : Int) := by rw [Vector.getElem?_eq_getElem (by omega)]; exact congrArg some h1
  have g2 : p[0 + 1 + 1]? = some (n2 : Int) := by rw [Vector.getElem?_eq_getElem (by omega)]; exact congrArg some h2
  have hl : bloom_Add.l1 p (3 - 0 + 2) 0 b = some b2 := by
    show bloom_Add.l1 p (4 + 1) 0 b = some b2
    rw [bloom_Add.l1, if_pos (by omega), g0, Option.bind_some, if_pos (by omega), f0, Option.bind_some]
    show bloom_Add.l1 p (3 + 1) (0 + 1) b0 = some b2
    rw [bloom_Add.l1, if_pos (by omega), g1, Option.bind_some, if_pos (by omega), f1, Option.bind_some]
    show bloom_Add.l1 p (2 + 1) (0 + 1 + 1) b1 = some b2
    rw [bloom_Add.l1, if_pos (by omega), g2, Option.bind_some, if_pos (by omega), f2, Option.bind_some]
    show bloom_Add.l1 p (1 + 1) (0 + 1 + 1 + 1) b2 = some b2
    rw [bloom_Add.l1, if_neg (by omega)]
  rw [hl, Option.bind_some]
theorem rof_loop (a : List (List (BitVec 8))) (ha : ∀ t ∈ a, t.length + 137 ≤ 140737488355328) : ∀ (k n : Nat) (w : Vector (BitVec 8) 256), waybillref10_Of.l1 a k n w = bloom_Of.l1 a k n w
  | 0, n, w => rfl
  | k + 1, n, w => by
    rw [waybillref10_Of.l1, bloom_Of.l1]
    by_cases h : n < a.length
    · rw [if_pos h, if_pos h, List.getElem?_eq_getElem h, Option.bind_some, Option.bind_some, radd_eq _ _ (ha _ (List.getElem_mem h))]
      simp only [rof_loop a ha k]
    · rw [if_neg h, if_neg h]
end Go.Fw
namespace Go.Fw
set_option linter.unusedVariables false
set_option linter.unusedSimpArgs false
set_option maxRecDepth 10000
def logT (x : Log) : List (List (BitVec 8)) := x.address.toList :: x.topics.map (·.toList)
def logsT (l : List Log) : List (List (BitVec 8)) := l.flatMap logT
theorem logT_len (x : Log) : (logT x).length = x.topics.length + 1 := by simp [logT]
theorem logsT_small {l : List Log} {t : List (BitVec 8)} (h : t ∈ logsT l) : t.length ≤ 32 := by
  obtain ⟨x, _, hx⟩ := List.mem_flatMap.1 h
  rcases List.mem_cons.1 hx with rfl | hx
  · rw [Vector.length_toList]; omega
  · obtain ⟨y, _, rfl⟩ := List.mem_map.1 hx
    rw [Vector.length_toList]; omega
theorem rbof_in (a : List Log) (n : Nat) (x : Log) (hx : a[n]? = some x) : ∀ (d i k : Nat) (l : List (List (BitVec 8))), i + d = x.topics.length → d < k → (l.length + d) * 24 ≤ 140737488355328 → receipt_BloomOf.l2 a n x k l i = some (l ++ (x.topics.drop i).map (·.toList))
  | 0, i, k, l, h, hk, hb => by
    obtain ⟨k, rfl⟩ : ∃ m, k = m + 1 := ⟨k - 1, by omega⟩
    rw [receipt_BloomOf.l2, if_neg (by omega), List.drop_eq_nil_of_le (by omega), List.map_nil, List.append_nil]
  | d + 1, i, k, l, h, hk, hb => by
    obtain ⟨k, rfl⟩ : ∃ m, k = m + 1 := ⟨k - 1, by omega⟩
    have h1 : i < x.topics.length := by omega
    rw [receipt_BloomOf.l2, if_pos h1, hx, Option.bind_some, List.getElem?_eq_getElem h1, Option.bind_some, if_pos (by simp; omega), rbof_in a n x hx d (i + 1) k _ (by omega) (by omega) (by simp; omega), List.append_assoc, List.singleton_append, List.drop_eq_getElem_cons h1, List.map_cons]
theorem rbof_out (a : List Log) : ∀ (d i k : Nat) (l : List (List (BitVec 8))), i + d = a.length → d < k → (l.length + (logsT (a.drop i)).length) * 24 ≤ 140737488355328 → receipt_BloomOf.l1 a k l i = some (l ++ logsT (a.drop i))
  | 0, i, k, l, h, hk, hb => by
    obtain ⟨k, rfl⟩ : ∃ m, k = m + 1 := ⟨k - 1, by omega⟩
    rw [receipt_BloomOf.l1, if_neg (by omega), List.drop_eq_nil_of_le (by omega)]
    simp [logsT]
  | d + 1, i, k, l, h, hk, hb => by
    obtain ⟨k, rfl⟩ : ∃ m, k = m + 1 := ⟨k - 1, by omega⟩
    have h1 : i < a.length := by omega
    have hx : a[i]? = some a[i] := List.getElem?_eq_getElem h1
    have hs : logsT (a.drop i) = logT a[i] ++ logsT (a.drop (i + 1)) := by rw [List.drop_eq_getElem_cons h1, logsT, List.flatMap_cons]; rfl
    rw [hs, List.length_append, logT_len] at hb
    rw [receipt_BloomOf.l1, if_pos h1, hx, Option.bind_some, if_pos (by simp; omega), Option.bind_some, rbof_in a i _ hx _ 0 _ _ (Nat.zero_add _) (by omega) (by simp; omega), Option.bind_some, rbof_out a d (i + 1) k _ (by omega) (by omega) (by simp; omega), hs, List.drop_zero]
    simp [logT]
theorem rbof_eq (a : List Log) (hb : (logsT a).length * 24 ≤ 140737488355328) : receipt_BloomOf a = bloom_Of (logsT a) := by
  unfold receipt_BloomOf
  rw [rbof_out a a.length 0 (a.length - 0 + 2) [] (by omega) (by omega) (by simpa using hb), Option.bind_some, List.drop_zero, List.nil_append]
  cases bloom_Of (logsT a) <;> rfl
theorem rbof_bits (a : List Log) (hb : (logsT a).length * 24 ≤ 140737488355328) : ∃ b, receipt_BloomOf a = some b ∧ (∀ q, q < 2048 → bitV b q = inL (logsT a) q) ∧ (logsT a = [] → b = Vector.replicate 256 0#8) := by
  rw [rbof_eq a hb]
  exact of_eq (logsT a) (fun t ht => by have := logsT_small ht; omega)
end Go.Fw
namespace Go.Fw
set_option linter.unusedVariables false
set_option linter.unusedSimpArgs false
set_option maxRecDepth 10000
def tIt (d : List (BitVec 8)) : It := It.mk false d []
def logIt (x : Log) : It := It.mk true [] [tIt x.address.toList, It.mk true [] (x.topics.map fun h => tIt h.toList), tIt x.data]
end Go.Fw
namespace Go.Fw
set_option linter.unusedVariables false
set_option linter.unusedSimpArgs false
set_option maxRecDepth 4000
theorem encode_long {x : It} (hg : x.good) (hd : x.dep ≤ 1024) (hw : x.w9 ≤ 1099511627776) (hl : 16777216 < x.enc.length) : rlp_Encode x = some ([], 2) := by
  unfold rlp_Encode rlp_Check
  rw [sound_eq hg (by omega), Option.bind_some]
  dsimp only
  rw [if_pos rfl, if_neg (by omega), size_eq hw, Option.bind_some, if_pos hl, Option.bind_some, if_neg (by decide)]
theorem size_long {x : It} (hg : x.good) (hd : x.dep ≤ 1024) (hw : x.w9 ≤ 1099511627776) (hl : 16777216 < x.enc.length) : rlp_Size x = some (0, 2) := by
  unfold rlp_Size rlp_Check
  rw [sound_eq hg (by omega), Option.bind_some]
  dsimp only
  rw [if_pos rfl, if_neg (by omega), size_eq hw, Option.bind_some, if_pos hl, Option.bind_some, if_neg (by decide)]
end Go.Fw
namespace Go.Fw
set_option linter.unusedVariables false
set_option linter.unusedSimpArgs false
set_option maxRecDepth 10000
def smallIt (x : BitVec 64) : It := tIt (bytesN x.toNat)
theorem rsmall_it (x : BitVec 64) : rlp_Small x = some (smallIt x) := by
  have h := x.isLt
  rw [small_eq, val4_lim _ (by omega)]; rfl
def firstIt (ro : Bool) (rt : Vector (BitVec 8) 32) (st : BitVec 64) : It := if ro = true then tIt rt.toList else smallIt st
def firstOk (k : Int) (ro : Bool) (rt : Vector (BitVec 8) 32) (st : BitVec 64) : Prop := (ro = true → k = 0 ∧ st = 0#64) ∧ (ro = false → rt = Vector.replicate 32 0#8 ∧ st.toNat ≤ 1)
def fewT (l : List Log) : Prop := ∀ x ∈ l, x.topics.length ≤ 4
end Go.Fw
namespace Go.Fw
set_option linter.unusedVariables false
set_option linter.unusedSimpArgs false
set_option maxRecDepth 10000
def Valid (r : Rcpt) : Prop := (0 ≤ r.kind ∧ r.kind ≤ 4) ∧ firstOk r.kind r.rooted r.root r.status ∧ fewT r.logs ∧ receipt_BloomOf r.logs = some r.bloom
def rcptItems (r : Rcpt) : List It := [firstIt r.rooted r.root r.status, smallIt r.used, tIt r.bloom.toList, It.mk true [] (r.logs.map logIt)]
def rcptIt (r : Rcpt) : It := It.mk true [] (rcptItems r)
theorem logsT_few : ∀ {l : List Log}, fewT l → (logsT l).length ≤ 5 * l.length
  | [], _ => by simp [logsT]
  | x :: l, h => by
    have h1 := h x (List.mem_cons_self ..)
    have h2 := logsT_few (l := l) (fun y hy => h y (List.mem_cons_of_mem _ hy))
    rw [logsT, List.flatMap_cons, List.length_append, logT_len, List.length_cons, show (l.flatMap logT).length = (logsT l).length from rfl]
    omega
theorem bloom_total {l : List Log} (h : fewT l) (hl : l.length ≤ 1099511627776) : ∃ b, receipt_BloomOf l = some b := by
  have := logsT_few h
  obtain ⟨b, hb, _⟩ := rbof_bits l (by omega)
  exact ⟨b, hb⟩
theorem checkl (r : Rcpt) : ∀ (d i k : Nat), i + d = r.logs.length → d < k → receipt_Check.l1 r k i = if ∃ x ∈ r.logs.drop i, 4 < x.topics.length then some (Lp.ret (some 174)) else some (Lp.go ())
  | 0, i, k, h, hk => by
    obtain ⟨k, rfl⟩ : ∃ m, k = m + 1 := ⟨k - 1, by omega⟩
    rw [receipt_Check.l1, if_neg (by omega), List.drop_eq_nil_of_le (by omega)]; simp
  | d + 1, i, k, h, hk => by
    obtain ⟨k, rfl⟩ : ∃ m, k = m + 1 := ⟨k - 1, by omega⟩
    have h1 : i < r.logs.length := by omega
    rw [receipt_Check.l1, if_pos h1, List.getElem?_eq_getElem h1, Option.bind_some, checkl r d (i + 1) k (by omega) (by omega), List.drop_eq_getElem_cons h1]
    by_cases e : 4 < (r.logs[i]).topics.length
    · rw [if_pos e, if_pos ⟨_, List.mem_cons_self .., e⟩]
    · rw [if_neg e]
      simp only [List.mem_cons, exists_eq_or_imp, e, false_or]
theorem check_char (r : Rcpt) (hl : r.logs.length ≤ 1099511627776) : ∃ e, receipt_Check r = some e ∧ (Valid r → e = 0) ∧ (e = 0 → Valid r) ∧ ((0 ≤ r.kind ∧ r.kind ≤ 4) → firstOk r.kind r.rooted r.root r.status → fewT r.logs → receipt_BloomOf r.logs ≠ some r.bloom → e = 173) := by
  unfold receipt_Check
  by_cases hk : r.kind < 0 ∨ 4 < r.kind
  · have h1 : (if r.kind < (0 : Int) then some true else some (decide ((4 : Int) < r.kind))) = some true := by
      by_cases h : r.kind < 0
      · rw [if_pos h]
      · rw [if_neg h]; simp; omega
    rw [h1, Option.bind_some, if_pos rfl]
    exact ⟨_, rfl, fun h => absurd h.1 (by omega), fun h => absurd h (by decide), fun h => absurd h (by omega)⟩
  have h1 : (if r.kind < (0 : Int) then some true else some (decide ((4 : Int) < r.kind))) = some false := by
    rw [if_neg (by omega)]; simp; omega
  rw [h1, Option.bind_some, if_neg (by decide)]
  have key : ∃ p : Bool, ((if r.rooted = true then (if r.kind = (0 : Int) then (if r.status = 0#64 then (if r.rooted = true then (some (false)) else (if r.root = (Vector.replicate 32 0#8) then (some ((decide (1 < r.status.toNat)))) else (some (true)))) else (some (true))) else (some (true))) else (if r.rooted = true then (some (false)) else (if r.root = (Vector.replicate 32 0#8) then (some ((decide (1 < r.status.toNat)))) else (some (true))))) : Option Bool) = some p ∧ (p = false ↔ firstOk r.kind r.rooted r.root r.status) := by
    unfold firstOk
    cases hr : r.rooted with
    | false =>
      rw [if_neg (by decide), if_neg (by decide)]
      by_cases h2 : r.root = Vector.replicate 32 0#8
      · rw [if_pos h2]
        refine ⟨_, rfl, ?_⟩
        simp [h2]
      · rw [if_neg h2]
        refine ⟨_, rfl, ?_⟩
        simp [h2]
    | true =>
      rw [if_pos rfl, if_pos rfl]
      by_cases h2 : r.kind = 0
      · rw [if_pos h2]
        by_cases h3 : r.status = 0#64
        · rw [if_pos h3]
          exact ⟨_, rfl, by simp [h2, h3]⟩
        · rw [if_neg h3]
          exact ⟨_, rfl, by simp [h2, h3]⟩
      · rw [if_neg h2]
        exact ⟨_, rfl, by simp [h2]⟩
  obtain ⟨p, hp1, hp2⟩ := key
  rw [hp1, Option.bind_some]
  by_cases hp : p = true
  · rw [if_pos hp]
    have hno : ¬ firstOk r.kind r.rooted r.root r.status := fun h => by have := hp2.2 h; rw [hp] at this; cases this
    exact ⟨_, rfl, fun h => absurd h.2.1 hno, fun h => absurd h (by decide), fun _ h => absurd h hno⟩
  · rw [if_neg hp]
    have hok := hp2.1 (by simpa using hp)
    rw [checkl r r.logs.length 0 _ (by omega) (by omega), List.drop_zero]
    by_cases ht : ∃ x ∈ r.logs, 4 < x.topics.length
    · rw [if_pos ht, Option.bind_some]
      obtain ⟨x, hx, hx4⟩ := ht
      have hno : ¬ fewT r.logs := fun h => by have := h x hx; omega
      exact ⟨_, rfl, fun h => absurd h.2.2.1 hno, fun h => absurd h (by decide), fun _ _ h => absurd h hno⟩
    · rw [if_neg ht, Option.bind_some]
      have hfew : fewT r.logs := fun x hx => by
        by_cases h4 : x.topics.length ≤ 4
        · exact h4
        · exact absurd ⟨x, hx, by omega⟩ ht
      obtain ⟨b, hb⟩ := bloom_total hfew hl
      dsimp only
      rw [hb, Option.bind_some]
      by_cases he : r.bloom = b
      · rw [if_pos he]
        exact ⟨_, rfl, fun _ => rfl, fun _ => ⟨by omega, hok, hfew, by rw [hb, he]⟩, fun _ _ _ h => absurd (by rw [he]) h⟩
      · rw [if_neg he]
        refine ⟨_, rfl, fun h => ?_, fun h => absurd h (by decide), fun _ _ _ _ => rfl⟩
        have := h.2.2.2
        rw [hb] at this
        exact absurd (Option.some.inj this).symm he
theorem good_t (d : List (BitVec 8)) : (tIt d).good := by rw [It.good_eq]; exact ⟨(fun h => by cases h), (fun _ => rfl), by show Its.good []; simp [Its.good]⟩
theorem good_l {l : List It} (h : ∀ x ∈ l, x.good) : (It.mk true [] l).good := by
  rw [It.good_eq]
  refine ⟨(fun _ => rfl), (fun h => by cases h), ?_⟩
  show Its.good l
  induction l with
  | nil => simp [Its.good]
  | cons x l ih => rw [Its.good]; exact ⟨h x (List.mem_cons_self ..), ih fun y hy => h y (List.mem_cons_of_mem _ hy)⟩
theorem dep_le {l : List It} {n : Nat} (h : ∀ x ∈ l, x.dep ≤ n) : Its.dep l ≤ n := by
  induction l with
  | nil => simp [Its.dep]
  | cons x l ih =>
    rw [Its.dep]
    have := h x (List.mem_cons_self ..)
    have := ih fun y hy => h y (List.mem_cons_of_mem _ hy)
    omega
theorem dep_t (d : List (BitVec 8)) : (tIt d).dep = 0 := by rw [It.dep_eq]; rfl
theorem dep_l {l : List It} {n : Nat} (h : ∀ x ∈ l, x.dep ≤ n) : (It.mk true [] l).dep ≤ n + 1 := by
  rw [It.dep_eq]
  have := dep_le h
  show (if true = true then Its.dep l + 1 else 0) ≤ _
  rw [if_pos rfl]; omega
theorem w9_t (d : List (BitVec 8)) : (tIt d).w9 = 9 + d.length := by rw [It.w9_eq]; show 9 + d.length + Its.w9 [] = _; simp [Its.w9]
theorem w9_l (l : List It) : (It.mk true [] l).w9 = 9 + Its.w9 l := by rw [It.w9_eq]; show 9 + 0 + Its.w9 l = _; omega
theorem w9_hs (l : List (Vector (BitVec 8) 32)) : Its.w9 (l.map fun h => tIt h.toList) = 41 * l.length := by
  induction l with
  | nil => rfl
  | cons x l ih => rw [List.map_cons, Its.w9, w9_t, ih, Vector.length_toList, List.length_cons]; omega
def szL (x : Log) : Nat := 56 + 41 * x.topics.length + x.data.length
theorem w9_log (x : Log) : (logIt x).w9 = szL x := by
  unfold logIt szL
  rw [w9_l, Its.w9, Its.w9, Its.w9, Its.w9, w9_t, w9_t, w9_l, w9_hs, Vector.length_toList]; omega
theorem w9_logs (l : List Log) : Its.w9 (l.map logIt) = (l.map szL).sum := by
  induction l with
  | nil => rfl
  | cons x l ih => rw [List.map_cons, Its.w9, w9_log, ih, List.map_cons, List.sum_cons]
theorem good_log (x : Log) : (logIt x).good := by
  refine good_l fun y hy => ?_
  simp only [List.mem_cons, List.not_mem_nil, or_false] at hy
  rcases hy with rfl | rfl | rfl
  · exact good_t _
  · refine good_l fun z hz => ?_
    obtain ⟨h, _, rfl⟩ := List.mem_map.1 hz
    exact good_t _
  · exact good_t _
theorem dep_log (x : Log) : (logIt x).dep ≤ 2 := by
  refine dep_l (n := 1) fun y hy => ?_
  simp only [List.mem_cons, List.not_mem_nil, or_false] at hy
  rcases hy with rfl | rfl | rfl
  · rw [dep_t]; omega
  · refine dep_l (n := 0) fun z hz => ?_
    obtain ⟨h, _, rfl⟩ := List.mem_map.1 hz
    rw [dep_t]; omega
  · rw [dep_t]; omega
theorem first_t (ro : Bool) (rt : Vector (BitVec 8) 32) (st : BitVec 64) : ∃ d, firstIt ro rt st = tIt d ∧ d.length ≤ 32 := by
  unfold firstIt
  split
  · exact ⟨_, rfl, by rw [Vector.length_toList]; omega⟩
  · exact ⟨_, rfl, by rw [bytesN_length]; have := nb_8 st.isLt; omega⟩
theorem good_rcpt (r : Rcpt) : (rcptIt r).good := by
  refine good_l fun y hy => ?_
  simp only [rcptItems, List.mem_cons, List.not_mem_nil, or_false] at hy
  rcases hy with rfl | rfl | rfl | rfl
  · obtain ⟨d, h, _⟩ := first_t r.rooted r.root r.status
    rw [h]; exact good_t _
  · exact good_t _
  · exact good_t _
  · refine good_l fun z hz => ?_
    obtain ⟨h, _, rfl⟩ := List.mem_map.1 hz
    exact good_log _
theorem dep_rcpt (r : Rcpt) : (rcptIt r).dep ≤ 4 := by
  refine dep_l (n := 3) fun y hy => ?_
  simp only [rcptItems, List.mem_cons, List.not_mem_nil, or_false] at hy
  rcases hy with rfl | rfl | rfl | rfl
  · obtain ⟨d, h, _⟩ := first_t r.rooted r.root r.status
    rw [h, dep_t]; omega
  · show (tIt _).dep ≤ 3; rw [dep_t]; omega
  · rw [dep_t]; omega
  · refine dep_l (n := 2) fun z hz => ?_
    obtain ⟨h, _, rfl⟩ := List.mem_map.1 hz
    exact dep_log _
theorem w9_rcpt (r : Rcpt) : (rcptIt r).w9 ≤ 350 + (r.logs.map szL).sum := by
  obtain ⟨d, h, hd⟩ := first_t r.rooted r.root r.status
  have h8 : (bytesN r.used.toNat).length ≤ 8 := by rw [bytesN_length]; exact nb_8 r.used.isLt
  unfold rcptIt rcptItems
  rw [w9_l, Its.w9, Its.w9, Its.w9, Its.w9, Its.w9, h, w9_t, w9_t, w9_l, w9_logs, Vector.length_toList]
  unfold smallIt
  rw [w9_t]; omega
end Go.Fw
namespace Go.Fw
set_option linter.unusedVariables false
set_option linter.unusedSimpArgs false
set_option maxRecDepth 10000
def encR (r : Rcpt) : List (BitVec 8) := if r.kind = 0 then (rcptIt r).enc else BitVec.ofInt 8 r.kind :: (rcptIt r).enc
theorem logitem_loop (x : Log) (hx : x.topics.length ≤ 4) : ∀ (d i k : Nat) (l : List It), i + d = x.topics.length → d < k → l.length ≤ i → receipt_LogItem.l1 x k l i = some (l ++ (x.topics.drop i).map fun h => tIt h.toList)
  | 0, i, k, l, h, hk, hl => by
    obtain ⟨k, rfl⟩ : ∃ m, k = m + 1 := ⟨k - 1, by omega⟩
    rw [receipt_LogItem.l1, if_neg (by omega), List.drop_eq_nil_of_le (by omega)]; simp
  | d + 1, i, k, l, h, hk, hl => by
    obtain ⟨k, rfl⟩ : ∃ m, k = m + 1 := ⟨k - 1, by omega⟩
    have h1 : i < x.topics.length := by omega
    rw [receipt_LogItem.l1, if_pos h1, List.getElem?_eq_getElem h1, Option.bind_some, text_eq, Option.bind_some, if_pos (by rw [List.length_singleton]; omega), logitem_loop x hx d (i + 1) k _ (by omega) (by omega) (by rw [List.length_append, List.length_singleton]; omega), List.drop_eq_getElem_cons h1, List.map_cons, List.append_assoc]
    rfl
theorem wt_le_w9 : ∀ l : List It, Its.wt l ≤ Its.w9 l := fun l => by have := Its.wt_w9 l; omega
theorem logitem_char (x : Log) (hx : x.topics.length ≤ 4) (hd : x.data.length ≤ 1073741824) : receipt_LogItem x = some (if (logIt x).enc.length ≤ 16777216 then (logIt x, 0) else (It.zero, 2)) := by
  have hw := w9_log x
  unfold szL at hw
  unfold receipt_LogItem
  rw [if_neg (by omega), logitem_loop x hx x.topics.length 0 _ [] (by omega) (by omega) (by simp), Option.bind_some, text_eq, Option.bind_some, List.nil_append, List.drop_zero]
  have h1 := w9_hs x.topics
  rw [list_eq (by have := wt_le_w9 (x.topics.map fun h => tIt h.toList); omega), Option.bind_some, text_eq, Option.bind_some]
  have h2 : Its.wt [It.mk false x.address.toList [], It.mk true [] (x.topics.map fun h => tIt h.toList), It.mk false x.data []] ≤ 2147483647 := by
    have h3 := wt_le_w9 [tIt x.address.toList, It.mk true [] (x.topics.map fun h => tIt h.toList), tIt x.data]
    have h4 : Its.w9 [tIt x.address.toList, It.mk true [] (x.topics.map fun h => tIt h.toList), tIt x.data] + 9 = szL x := by rw [← w9_log, logIt, w9_l]; omega
    unfold szL at h4
    exact Nat.le_trans h3 (by omega)
  rw [list_eq h2, Option.bind_some]
  show (rlp_Size (logIt x)).bind _ = _
  have hdep := dep_log x
  by_cases hl : (logIt x).enc.length ≤ 16777216
  · rw [size_gen (good_log x) (by omega) (by omega) hl, Option.bind_some]; dsimp only; rw [if_pos rfl, if_pos hl]; rfl
  · rw [size_long (good_log x) (by omega) (by omega) (by omega), Option.bind_some]; dsimp only; rw [if_neg (by decide), if_neg hl]
theorem logs_enc_mem {l : List Log} {x : Log} (h : x ∈ l) : (logIt x).enc.length ≤ (Its.enc (l.map logIt)).length := by
  induction l with
  | nil => cases h
  | cons y l ih =>
    rw [List.map_cons, Its.enc, List.length_append]
    rcases List.mem_cons.1 h with rfl | h
    · omega
    · have := ih h; omega
theorem encode_loop (r : Rcpt) (hf : fewT r.logs) (hd : ∀ x ∈ r.logs, x.data.length ≤ 1073741824) (hn : r.logs.length ≤ 1073741824) : ∀ (d i k : Nat) (l : List It), i + d = r.logs.length → d < k → l.length ≤ i →
    receipt_Encode.l1 r k l i = if ∀ x ∈ r.logs.drop i, (logIt x).enc.length ≤ 16777216 then some (Lp.go (l ++ (r.logs.drop i).map logIt)) else some (Lp.ret (some ([], 2)))
  | 0, i, k, l, h, hk, hl => by
    obtain ⟨k, rfl⟩ : ∃ m, k = m + 1 := ⟨k - 1, by omega⟩
    rw [receipt_Encode.l1, if_neg (by omega), List.drop_eq_nil_of_le (by omega)]; simp
  | d + 1, i, k, l, h, hk, hl => by
    obtain ⟨k, rfl⟩ : ∃ m, k = m + 1 := ⟨k - 1, by omega⟩
    have h1 : i < r.logs.length := by omega
    have hm := List.getElem_mem h1
    rw [receipt_Encode.l1, if_pos h1, List.getElem?_eq_getElem h1, Option.bind_some, logitem_char _ (hf _ hm) (hd _ hm), Option.bind_some, List.drop_eq_getElem_cons h1]
    by_cases he : (logIt r.logs[i]).enc.length ≤ 16777216
    · rw [if_pos he]
      dsimp only
      rw [if_pos rfl, if_pos (by rw [List.length_singleton]; omega), encode_loop r hf hd hn d (i + 1) k _ (by omega) (by omega) (by rw [List.length_append, List.length_singleton]; omega)]
      by_cases ha : ∀ x ∈ r.logs.drop (i + 1), (logIt x).enc.length ≤ 16777216
      · rw [if_pos ha, if_pos (fun x hx => by rcases List.mem_cons.1 hx with rfl | hx; exact he; exact ha x hx), List.map_cons, List.append_assoc]; rfl
      · rw [if_neg ha, if_neg (fun h => ha fun x hx => h x (List.mem_cons_of_mem _ hx))]
    · rw [if_neg he]
      dsimp only
      rw [if_neg (by decide), if_neg (fun h => he (h _ (List.mem_cons_self ..)))]
theorem encR_length (r : Rcpt) : (encR r).length = (rcptIt r).enc.length + if r.kind = 0 then 0 else 1 := by
  unfold encR
  split
  · rfl
  · rw [List.length_cons]
theorem encode_char (r : Rcpt) (hv : Valid r) (hd : ∀ x ∈ r.logs, x.data.length ≤ 1073741824) (hn : (r.logs.map szL).sum ≤ 2147480000) : receipt_Encode r = some (if (encR r).length ≤ 16777216 then (encR r, 0) else ([], 2)) := by
  have hlen : r.logs.length * 56 ≤ (r.logs.map szL).sum := by
    clear hn hd hv
    generalize r.logs = l
    induction l with
    | nil => simp
    | cons x l ih => rw [List.length_cons, List.map_cons, List.sum_cons]; unfold szL at ih ⊢; omega
  have hw := w9_rcpt r
  have hdep := dep_rcpt r
  obtain ⟨e, hc, hc0, _⟩ := check_char r (by omega)
  have he := hc0 hv
  subst he
  unfold receipt_Encode
  rw [hc, Option.bind_some, if_pos rfl, rsmall_it, Option.bind_some]
  have hfirst : ((if r.rooted = true then ((rlp_Text r.root.toList).bind fun x298 => (some (((x298.list), x298.data, x298.items)))) else (some ((((smallIt r.status).list), (smallIt r.status).data, (smallIt r.status).items)))) : Option ((Bool) × (List (BitVec 8)) × (List (It)))) = some ((firstIt r.rooted r.root r.status).list, (firstIt r.rooted r.root r.status).data, (firstIt r.rooted r.root r.status).items) := by
    unfold firstIt
    split
    · rw [text_eq]; rfl
    · rfl
  rw [hfirst, Option.bind_some]
  dsimp only
  rw [encode_loop r hv.2.2.1 hd (by omega) r.logs.length 0 _ [] (by omega) (by omega) (by simp), List.drop_zero]
  have henc : (Its.enc (r.logs.map logIt)).length ≤ (rcptIt r).enc.length := by
    have e1 : (rcptIt r).enc = headB 192 (Its.enc (rcptItems r)).length ++ Its.enc (rcptItems r) := by rw [It.enc_eq]; rfl
    rw [e1]
    unfold rcptItems
    simp only [Its.enc, List.length_append]
    have e2 : (It.mk true [] (r.logs.map logIt)).enc = headB 192 (Its.enc (r.logs.map logIt)).length ++ Its.enc (r.logs.map logIt) := by rw [It.enc_eq]; rfl
    rw [e2, List.length_append]; omega
  have hwl : Its.wt (r.logs.map logIt) ≤ 2147483647 := by
    have := wt_le_w9 (r.logs.map logIt)
    rw [w9_logs] at this; omega
  have hwi : Its.wt (rcptItems r) ≤ 2147483647 := by
    have h1 := wt_le_w9 (rcptItems r)
    have h2 : (rcptIt r).w9 = 9 + Its.w9 (rcptItems r) := w9_l _
    omega
  by_cases ha : ∀ x ∈ r.logs, (logIt x).enc.length ≤ 16777216
  · rw [if_pos ha, Option.bind_some]
    dsimp only
    rw [rsmall_it, Option.bind_some, text_eq, Option.bind_some, List.nil_append, list_eq hwl, Option.bind_some]
    have hl2 : rlp_List [It.mk (firstIt r.rooted r.root r.status).list (firstIt r.rooted r.root r.status).data (firstIt r.rooted r.root r.status).items, smallIt r.used, It.mk false r.bloom.toList [], It.mk true [] (r.logs.map logIt)] = some (rcptIt r) := by
      rw [show It.mk (firstIt r.rooted r.root r.status).list (firstIt r.rooted r.root r.status).data (firstIt r.rooted r.root r.status).items = firstIt r.rooted r.root r.status from (It.eta _).symm]
      exact list_eq hwi
    rw [hl2, Option.bind_some]
    have hel := encR_length r
    by_cases hl : (rcptIt r).enc.length ≤ 16777216
    · rw [encode_gen (good_rcpt r) (by omega) (by omega) hl, Option.bind_some]
      dsimp only
      rw [if_pos rfl]
      by_cases hk : r.kind = 0
      · rw [if_pos hk] at hel
        rw [if_pos hk, Option.bind_some, if_neg (by omega), if_pos (by omega)]
        unfold encR
        rw [if_pos hk]
      · rw [if_neg hk] at hel
        rw [if_neg hk, if_pos (by rw [List.length_singleton]; omega), Option.bind_some]
        have hcons : [BitVec.ofInt 8 r.kind] ++ (rcptIt r).enc = encR r := by unfold encR; rw [if_neg hk]; rfl
        rw [hcons]
        by_cases h2 : (encR r).length ≤ 16777216
        · rw [if_neg (by omega), if_pos h2]
        · rw [if_pos (by omega), if_neg h2]
    · rw [encode_long (good_rcpt r) (by omega) (by omega) (by omega), Option.bind_some]
      dsimp only
      rw [if_neg (by decide), if_neg (by omega)]
  · rw [if_neg ha, Option.bind_some]
    have hel := encR_length r
    rw [if_neg (fun h => ha fun x hx => by have := logs_enc_mem hx; omega)]
theorem encode_bad (r : Rcpt) {e : Nat} (he : e ≠ 0) (hc : receipt_Check r = some e) : receipt_Encode r = some ([], e) := by
  unfold receipt_Encode
  rw [hc, Option.bind_some, if_neg he]
end Go.Fw
namespace Go.Fw
set_option linter.unusedVariables false
set_option linter.unusedSimpArgs false
set_option maxRecDepth 10000
theorem same17_loop (a : List (BitVec 8)) : ∀ (d i k : Nat), i + d = a.length → d < k → waybilllaw17_same.l1 a a k i = some (Lp.go ())
  | 0, i, k, h, hk => by
    obtain ⟨k, rfl⟩ : ∃ m, k = m + 1 := ⟨k - 1, by omega⟩
    rw [waybilllaw17_same.l1, if_neg (by omega)]
  | d + 1, i, k, h, hk => by
    obtain ⟨k, rfl⟩ : ∃ m, k = m + 1 := ⟨k - 1, by omega⟩
    have h1 : i < a.length := by omega
    rw [waybilllaw17_same.l1, if_pos h1, List.getElem?_eq_getElem h1, Option.bind_some, Option.bind_some, if_pos rfl, same17_loop a d (i + 1) k (by omega) (by omega)]
theorem same17 (a : List (BitVec 8)) : waybilllaw17_same a a = some true := by
  unfold waybilllaw17_same
  rw [if_pos rfl, same17_loop a a.length 0 _ (by omega) (by omega), Option.bind_some]
theorem sameLog_loop (a : Log) : ∀ (d i k : Nat), i + d = a.topics.length → d < k → waybilllaw17_sameLog.l1 a a k i = some (Lp.go ())
  | 0, i, k, h, hk => by
    obtain ⟨k, rfl⟩ : ∃ m, k = m + 1 := ⟨k - 1, by omega⟩
    rw [waybilllaw17_sameLog.l1, if_neg (by omega)]
  | d + 1, i, k, h, hk => by
    obtain ⟨k, rfl⟩ : ∃ m, k = m + 1 := ⟨k - 1, by omega⟩
    have h1 : i < a.topics.length := by omega
    rw [waybilllaw17_sameLog.l1, if_pos h1, List.getElem?_eq_getElem h1, Option.bind_some, Option.bind_some, if_pos rfl, sameLog_loop a d (i + 1) k (by omega) (by omega)]
theorem sameLog_refl (a : Log) : waybilllaw17_sameLog a a = some true := by
  unfold waybilllaw17_sameLog
  rw [if_pos rfl, Option.bind_some, if_neg (by simp), sameLog_loop a a.topics.length 0 _ (by omega) (by omega), Option.bind_some]
  dsimp only
  rw [same17, Option.bind_some]
theorem sameLogs_loop (a : List Log) : ∀ (d i k : Nat), i + d = a.length → d < k → waybilllaw17_sameLogs.l1 a a k i = some (Lp.go ())
  | 0, i, k, h, hk => by
    obtain ⟨k, rfl⟩ : ∃ m, k = m + 1 := ⟨k - 1, by omega⟩
    rw [waybilllaw17_sameLogs.l1, if_neg (by omega)]
  | d + 1, i, k, h, hk => by
    obtain ⟨k, rfl⟩ : ∃ m, k = m + 1 := ⟨k - 1, by omega⟩
    have h1 : i < a.length := by omega
    rw [waybilllaw17_sameLogs.l1, if_pos h1, List.getElem?_eq_getElem h1, Option.bind_some, Option.bind_some, sameLog_refl, Option.bind_some, if_pos rfl, sameLogs_loop a d (i + 1) k (by omega) (by omega)]
theorem sameLogs_refl (a : List Log) : waybilllaw17_sameLogs a a = some true := by
  unfold waybilllaw17_sameLogs
  rw [if_pos rfl, sameLogs_loop a a.length 0 _ (by omega) (by omega), Option.bind_some]
theorem num17 (x : Int) : waybilllaw17_num x = some x := by unfold waybilllaw17_num; rfl
end Go.Fw
