/- Part of a proof: rules that its law uses. -/
import Derived.Test.YtojnakdlnlcmiaaT4
set_option linter.unusedVariables false
set_option linter.unusedSimpArgs false
set_option linter.unusedSectionVars false
set_option maxRecDepth 100000
set_option maxHeartbeats 1000000
namespace Go.Fw.Try
open Go Go.Proofs Go.Fw
theorem waybillref17_LogItem_does (w0 : World) (Φ : Ctx) (N : List Ent) (hΦ : ∀ w, Mem w0 w N → Φ w) (cs0_ : List Value) (a0 : Log) (res0 : It) (res1 : Nat) (ha0 : LogRd Φ cs0_ a0) (hf : waybillref17_LogItem a0 = some (res0, res1)) : DoesG Try.prog 7 [.agg cs0_.toArray] w0 [] N (fun v G => ∃ B : List Ent, ∃ cr0 : List Value, (ItRd (More w0 Φ B) cr0 res0) ∧ (res1 ≤ 9223372036854775807) ∧ v = .tuple #[.agg cr0.toArray, .int .i64 ((res1 : Nat) : Int)] ∧ G = B) := by
 unfold waybillref17_LogItem at hf
 replace ha0 := LogRd.mono (Ψ := More w0 Φ []) (fun w q => q.1) _ _ ha0
 have h10 := ha0
 obtain ⟨A1, c2, cs4, A6, c7, e9, v3, h5, v8⟩ := LogRd.opn ha0
 subst e9
 have m11 := v3.mx
 have m12 := v8.mx
 refine DoesG.enter Try.func7 rfl Try.ntmps7 rfl (M := (([] ++ N))) rfl (Z4 (Z2 (OW.boxA rfl rfl (fun b13 => (OW.alloc (l := [.bool false, .slice none 0 0, .slice none 0 0]) rfl rfl rfl (fun b14 => (Z0 (Z5 rfl) rfl (Z6 (Z1 (Z4 (Z4 (Z2 (Z0 (Z30 rfl rfl rfl rfl) rfl (Z7 (ptr (some b13) 20) rfl ?_))))))))))))))
 refine Z0 (Z29 rfl (List.Mem.tail _ Zh) rfl rfl rfl (Z106 (⟨a0.address, .slice A1 a0.topics.length c2, .slice A6 a0.data.length c7⟩ : LogC))) rfl (Z0 (RV.len rfl rfl) rfl (Z0 (RV.gtr rfl rfl) rfl (Z7 (.bool (decide (4 < a0.topics.length))) (congrArg Value.bool (decide_eq_decide.2 (by omega))) (Z6 (Z1 ?_)))))
 by_cases h15 : 4 < a0.topics.length
 ·replace hf := if_t hf h15
  refine Z13 rfl (decide_eq_true h15) (Z4 (Z2 (Z0 (Z111 (l := [.bool false, .slice none 0 0, .slice none 0 0]) (cs := [.bool false, .slice none 0 0, .slice none 0 0]) [] rfl rfl rfl rfl rfl rfl rfl) rfl ?_)))
  refine Z28 (Z104 rfl rfl rfl (by intro u hu; simp at hu; rcases hu with rfl | rfl | rfl <;> rfl) rfl rfl rfl) ?_
  refine Z0 (Z5 rfl) rfl (Z6 (Z1 (CW.ret (Z8 ?_))))
  have er0 := Zi hf
  obtain ⟨e0, er1⟩ := Prod.mk.inj er0
  clear er0
  subst e0
  subst er1
  have v16 : View (More w0 Φ []) none ([] : List (BitVec 8)).length 0 1 (u8s []) := View.nil
  have v17 : View (More w0 Φ []) none ([] : List (It)).length 0 3 [] := View.nil
  refine Z102 (rs := [.cell 2 30, .tmp 3]) ([.agg [.bool false, .slice none 0 0, .slice none 0 0].toArray, .int .i64 (174 : Int)]) ([]) rfl ?_ rfl ?_ ?_ _ (.inl rfl)
  ·exact ⟨⟨_, _, _, _, rfl, Zh, rfl, rfl, rfl, rfl⟩, rfl, trivial⟩
  ·exact ⟨[], [.bool false, .slice none 0 0, .slice none 0 0], (ItRd.mk v16 v17 (Reps.nil)), (by omega), rfl, rfl⟩
  ·exact (fun w m => m.pick [] 2 rfl rfl)
 ·replace hf := if_f hf h15
  refine Z14 rfl (decide_eq_false h15) (CW.skip (Z1 (Z4 (Z2 (Z0 (Z22 rfl (List.Mem.tail _ Zh) rfl rfl rfl rfl (LogC.C_length _)) rfl ?_)))))
  obtain ⟨x19, hx18, hf⟩ := Z100 hf
  refine Z12 Try.call22 rfl (waybillref17_logItem_does w0 (More w0 Φ []) ((some b14, blk [.bool false, .slice none 0 0, .slice none 0 0] 30) :: (some b13, blk (⟨a0.address, .slice A1 a0.topics.length c2, .slice A6 a0.data.length c7⟩ : LogC).C 27) :: ([] ++ N)) (fun w m => Z103 hΦ 2 m rfl) (⟨a0.address, .slice A1 a0.topics.length c2, .slice A6 a0.data.length c7⟩ : LogC).C a0 x19 h10 hx18) rfl rfl ?_
  rintro L23 M24 ⟨B20, cs21, h22, e25, e26⟩
  rw [e25, e26]
  clear e25 e26 L23 M24
  refine Z20 (M' := ((some b14, blk [.bool false, .slice none 0 0, .slice none 0 0] 30) :: (some b13, blk (⟨a0.address, .slice A1 a0.topics.length c2, .slice A6 a0.data.length c7⟩ : LogC).C 27) :: ((B20 ++ []) ++ N))) (fun w m => by have h := Z107 (A := B20) m 0 2 rfl rfl; exact h) ?_
  have gq1 : ∀ w, More w0 Φ (B20 ++ []) w → More w0 Φ [] w := fun w q => More.mono (fun w m => (m).appR) q
  replace h10 := LogRd.mono gq1 _ _ h10
  replace v3 := v3.mono gq1
  replace h5 := h5.mono (Ar8Rd.mono gq1)
  replace v8 := v8.mono gq1
  replace h22 := ItRd.mono (Ψ := (More w0 Φ (B20 ++ []))) (fun w q => Z117 q) _ _ h22
  have h36 := h22
  obtain ⟨A27, c28, A30, c31, cs33, e35, v29, v32, h34⟩ := ItRd.opn h22
  subst e35
  have m37 := v29.mx
  have m38 := v32.mx
  have m39 := v29.mx
  have m40 := v32.mx
  refine OW.alloc (l := [.bool false, .slice none 0 0, .slice none 0 0]) rfl rfl rfl (fun b41 => ?_)
  refine Z28 (Z104 rfl rfl rfl (by intro u hu; simp at hu; rcases hu with rfl | rfl | rfl <;> rfl) rfl rfl rfl) ?_
  refine Z6 (Z1 (Z4 (Z2 (Z0 (Z22 rfl Zh rfl rfl rfl rfl rfl) rfl ?_))))
  obtain ⟨⟨x43, x44⟩, hx42, hf⟩ := Z100 hf
  try dsimp only at hf
  refine Z12 Try.call23 rfl (waybillref07_Size_does w0 (More w0 Φ (B20 ++ [])) ((some b41, blk [.bool (x19.list), .slice A27 x19.data.length c28, .slice A30 x19.items.length c31] 30) :: (some b14, blk [.bool false, .slice none 0 0, .slice none 0 0] 30) :: (some b13, blk (⟨a0.address, .slice A1 a0.topics.length c2, .slice A6 a0.data.length c7⟩ : LogC).C 27) :: ((B20 ++ []) ++ N)) (fun w m => Z103 hΦ 3 m rfl) [.bool (x19.list), .slice A27 x19.data.length c28, .slice A30 x19.items.length c31] x19 x43 x44 h36 hx42) rfl rfl ?_
  rintro _ G47 ⟨b45, b46, rfl⟩
  refine Z20 (M' := ((some b41, blk [.bool (x19.list), .slice A27 x19.data.length c28, .slice A30 x19.items.length c31] 30) :: (some b14, blk [.bool false, .slice none 0 0, .slice none 0 0] 30) :: (some b13, blk (⟨a0.address, .slice A1 a0.topics.length c2, .slice A6 a0.data.length c7⟩ : LogC).C 27) :: ((B20 ++ []) ++ N))) (fun w m => m.appR) (Z0 (Z3 rfl) rfl (Z0 (Z17 rfl rfl) rfl (Z7 (.int .i64 ((x43 : Nat) : Int)) (rfl) (Z0 (Z17 rfl rfl) rfl (Z7 (.int .i64 ((x44 : Nat) : Int)) (rfl) (Z0 (Z5 rfl) rfl (Z0 (Z5 rfl) rfl ?_)))))))
  refine Z6 (Z1 (Z4 (Z4 (Z2 (Z0 (Z3 rfl) rfl (Z0 (RV.neq rfl rfl) rfl (Z7 (.bool (!decide (x44 = 0))) (congrArg (fun b => Value.bool (!b)) (decide_eq_decide.2 (by omega))) (Z6 (Z1 ?_)))))))))
  by_cases h49 : x44 = 0
  ·replace hf := if_t hf h49
   refine Z14 rfl (congrArg (fun b => !b) (decide_eq_true h49)) (CW.skip (Z1 (Z4 (Z2 (Z0 (Z22 rfl Zh rfl rfl rfl rfl rfl) rfl (OW.rot1 ?_))))))
   refine Z28 (Z104 rfl rfl rfl (by intro u hu; simp at hu; rcases hu with rfl | rfl | rfl <;> rfl) rfl rfl rfl) ?_
   refine Z0 (Z5 rfl) rfl (Z6 (Z1 (CW.ret ?_)))
   have er0 := Zi hf
   obtain ⟨e0, er1⟩ := Prod.mk.inj er0
   clear er0
   subst e0
   subst er1
   refine Z102 (rs := [.cell 2 30, .tmp 3]) ([.agg [.bool (x19.list), .slice A27 x19.data.length c28, .slice A30 x19.items.length c31].toArray, .int .i64 (0 : Int)]) ((B20 ++ [])) rfl ?_ rfl ?_ ?_ _ (.inl rfl)
   ·exact ⟨⟨_, _, _, _, rfl, Zh, rfl, rfl, rfl, rfl⟩, rfl, trivial⟩
   ·exact ⟨(B20 ++ []), [.bool (x19.list), .slice A27 x19.data.length c28, .slice A30 x19.items.length c31], h36, (by omega), rfl, rfl⟩
   ·exact (fun w m => m.pick [] 3 rfl rfl)
  ·replace hf := if_f hf h49
   refine Z13 rfl (congrArg (fun b => !b) (decide_eq_false h49)) (Z4 (Z2 (Z0 (Z111 (l := [.bool false, .slice none 0 0, .slice none 0 0]) (cs := [.bool false, .slice none 0 0, .slice none 0 0]) [] rfl rfl rfl rfl rfl rfl rfl) rfl (OW.rot1 ?_))))
   refine Z28 (Z104 rfl rfl rfl (by intro u hu; simp at hu; rcases hu with rfl | rfl | rfl <;> rfl) rfl rfl rfl) ?_
   refine Z0 (Z5 rfl) rfl (Z6 (Z1 (CW.ret (Z8 ?_))))
   have er0 := Zi hf
   obtain ⟨e0, er1⟩ := Prod.mk.inj er0
   clear er0
   subst e0
   subst er1
   have v50 : View (More w0 Φ (B20 ++ [])) none ([] : List (BitVec 8)).length 0 1 (u8s []) := View.nil
   have v51 : View (More w0 Φ (B20 ++ [])) none ([] : List (It)).length 0 3 [] := View.nil
   refine Z102 (rs := [.cell 2 30, .tmp 3]) ([.agg [.bool false, .slice none 0 0, .slice none 0 0].toArray, .int .i64 (2 : Int)]) ((B20 ++ [])) rfl ?_ rfl ?_ ?_ _ (.inl rfl)
   ·exact ⟨⟨_, _, _, _, rfl, Zh, rfl, rfl, rfl, rfl⟩, rfl, trivial⟩
   ·exact ⟨(B20 ++ []), [.bool false, .slice none 0 0, .slice none 0 0], (ItRd.mk v50 v51 (Reps.nil)), (by omega), rfl, rfl⟩
   ·exact (fun w m => m.pick [] 3 rfl rfl)
theorem rtopics_does (w0 : World) (Φ : Ctx) (N : List Ent) (hΦ : ∀ w, Mem w0 w N → Φ w) (br b off : Nat) (l : List Value) (te : TypeId) (rd r2 : Rdr) (cs : List Value) (it : It) (ob : Option Nat) (c : Nat) (r : List Value) (ts ts2 : List (Vector (BitVec 8) 32)) (hit : ItRd Φ cs it) (ho : OwnS ob ts.length c 32 (hs32 ts) r) (hold : l[off]? = some (sl ob 0 ts.length c)) (hf : rtopics rd ts it = some (ts2, r2)) :
  DoesG Try.prog 28 [ptr (some br) 0, ptr (some b) off, .agg cs.toArray] w0 [(some br, blk rd.C 62), (ob, blk (hs32 ts ++ r) 51), (some b, blk l te)] N (fun u G => ∃ (B : List Ent) (ob' : Option Nat) (c' : Nat) (r' : List Value), OwnS ob' ts2.length c' 32 (hs32 ts2) r' ∧ u = .tuple #[] ∧ G = (some br, blk r2.C 62) :: (ob', blk (hs32 ts2 ++ r') 51) :: (some b, blk (l.set off (sl ob' 0 ts2.length c')) te) :: B) := by
 have hcl : cs.length = 3 := ItRd.len _ _ hit
 have hlt : off < l.length := (List.getElem?_eq_some_iff.1 hold).1
 unfold rtopics at hf
 obtain ⟨⟨p1, p2⟩, hp, hf⟩ := Option.bind_eq_some_iff.1 hf
 dsimp only at hf
 refine DoesG.enter Try.func28 rfl Try.ntmps28 rfl (M := (some br, blk rd.C 62) :: (ob, blk (hs32 ts ++ r) 51) :: (some b, blk l te) :: N) rfl (Z4 (Z2 (OW.boxA rfl rfl (fun b5 => (Z6 ?_)))))
 (refine Z1 ?_; refine Z4 ?_)
 refine Z2 (Z0 (Z3 rfl) rfl (Z0 (Z22 rfl Zh rfl rfl rfl rfl hcl) rfl ?_))
 refine OW.rot1 ?_; refine Z12 Try.call26 rfl (Z130 w0 Φ ((some b5, blk cs 30) :: (ob, blk (hs32 ts ++ r) 51) :: (some b, blk l te) :: N) (fun w m => hΦ w (m.drop 3)) br rd cs it p1 p2 hit hp) rfl rfl ?_; rintro _ _ ⟨B0, cr, oi, ci, ri, hri, oo, rfl, rfl⟩; refine Z20 (M' := (some br, blk p2.C 62) :: (ob, blk (hs32 ts ++ r) 51) :: (some b, blk l te) :: ((oi, blk (cr ++ ri) 30) :: (B0 ++ N))) (fun w m => (m.sk2.sk3.sk4).pick [1, 3, 4, 0] 5 rfl rfl) ?_
 refine Z0 (RV.len rfl rfl) rfl (Z0 (Z3 rfl) rfl (Z6 ?_))
 (refine Z1 ?_; refine CW.block ?_)
 have hvi := oo.view (te := 30) (w0 := w0) (Ψ := fun w => Mem w0 w ((oi, blk (cr ++ ri) 30) :: (B0 ++ N))) (by decide) (fun w q => q.sublist (List.singleton_sublist.2 (List.mem_cons_self ..)))
 replace hri := hri.mono (ItRd.mono (Ψ := fun w => Mem w0 w ((oi, blk (cr ++ ri) 30) :: (B0 ++ N))) (fun w q => ⟨hΦ w q.tail.appR, q.tail.appL⟩))
 have hmi := oo.mx
 refine Z114 (fun k L' M' => ∃ (i : Nat) (q : Rdr) (tsi : List (Vector (BitVec 8) 32)) (ob' : Option Nat) (c' : Nat) (r' : List Value), k = p1.length - i ∧ i ≤ p1.length ∧ rtopicsF q tsi (p1.drop i) = some (ts2, r2) ∧ OwnS ob' tsi.length c' 32 (hs32 tsi) r' ∧ L' = [(0, ptr (some br) 0), (1, ptr (some b) off), (11, sl oi 0 p1.length ci), (12, .int .i64 (p1.length : Int)), (13, .int .i64 (i : Int))] ∧
  M' = (some br, blk q.C 62) :: (ob', blk (hs32 tsi ++ r') 51) :: (some b, blk (l.set off (sl ob' 0 tsi.length c')) te) :: ((oi, blk (cr ++ ri) 30) :: (B0 ++ N))) (k0 := p1.length) ⟨0, p2, ts, ob, c, r, rfl, by omega, hf, ho, rfl, rfl⟩ ⟨rfl, rfl, rfl, rfl, rfl, trivial⟩ (fun w m => by rw [set_here hold]; exact m) ?_
 rintro k L' M' ⟨i, q, tsi, ob', c', r', rfl, hi, hfi, hoi, rfl, rfl⟩
 refine Z4 (Z2 (Z0 (RV.lss rfl rfl) rfl (Z6 ?_)))
 (refine Z1 ?_; refine Z4 ?_)
 refine Z138 rfl (fun hlt2 => ?_) (fun hlt2 => ?_)
 ·have h1 : i < p1.length := by omega
  have hx : p1[i]? = some p1[i] := List.getElem?_eq_getElem h1
  rw [List.drop_eq_getElem_cons h1, rtopicsF] at hfi
  obtain ⟨⟨t1, t2⟩, ht, hfi⟩ := Option.bind_eq_some_iff.1 hfi
  dsimp only at hfi
  obtain ⟨ci2, hci, hcc⟩ := hri.get ItRd.len hx
  have hcl2 : ci2.length = 3 := ItRd.len _ _ hci
  (refine CW.skip ?_; refine Z1 ?_; refine Z4 ?_; refine CW.block ?_; refine Z4 ?_)
  refine Z2 (Z0 (Z105 (i) rfl rfl rfl rfl rfl (hvi.isSome (by decide) h1) (by omega)) rfl (Z0 (Z110 rfl rfl rfl rfl (fun w m => hvi.load (m.drop 3) hcc) hcl2) rfl (OW.alloc rfl rfl rfl (fun b7 => (Z28 (Z104 rfl rfl rfl (ItRd.one _ _ hci) rfl rfl hcl2) (Z6 ?_))))))
  (refine Z1 ?_; refine Z4 ?_)
  refine Z2 (Z0 (Z3 rfl) rfl (Z0 (Z22 rfl Zh rfl rfl rfl rfl hcl2) rfl ?_))
  refine OW.rot1 ?_; refine Z12 Try.call27 rfl (Z120 w0 _ ((some b7, blk ci2 30) :: (ob', blk (hs32 tsi ++ r') 51) :: (some b, blk (l.set off (sl ob' 0 tsi.length c')) te) :: ((oi, blk (cr ++ ri) 30) :: (B0 ++ N))) (fun w m => m.drop 3) br q ci2 p1[i] 32 t1 t2 hci (by omega) ht) rfl rfl ?_; rintro _ _ ⟨Bt, ot, ct, rt, oto, rfl, rfl⟩; refine Z20 (M' := (ot, blk (u8s t1 ++ rt) 5) :: (some br, blk t2.C 62) :: (ob', blk (hs32 tsi ++ r') 51) :: (some b, blk (l.set off (sl ob' 0 tsi.length c')) te) :: ((oi, blk (cr ++ ri) 30) :: (B0 ++ N))) (fun w m => by have m2 := (m.sk2.sk3.sk4).pick [0, 1, 3, 4] 5 rfl rfl; exact m2.sublist (List.Sublist.cons_cons _ (List.Sublist.cons_cons _ (List.Sublist.cons_cons _ (List.Sublist.cons_cons _ (List.sublist_append_right _ _)))))) ?_
  refine Z0 (Z5 rfl) rfl (Z6 ?_)
  (refine Z1 ?_; refine Z4 ?_)
  have hv := oto.view (te := 5) (w0 := w0) (Ψ := fun w => Mem w0 w [(ot, blk (u8s t1 ++ rt) 5)]) (by decide) (fun w q => q)
  have hmt := oto.mx
  refine Z2 (Z0 (Z3 rfl) rfl (Z0 (RV.nilCheck rfl) rfl (Z0 (Z30 rfl rfl rfl rfl) rfl ?_)))
  refine Z0 (Z29 rfl (by (refine List.Mem.tail _ ?_; exact List.Mem.head _); done) rfl rfl rfl rfl) rfl ?_
  refine Z0 (RV.eql rfl rfl) rfl (Z6 (Z1 ?_))
  refine Z138 rfl (fun he => ?_) (fun he => ?_)
  ·rw [if_pos he] at hfi
   obtain ⟨hb, hfi⟩ := Z116 hfi
   obtain ⟨x, hx2, hfi⟩ := Option.bind_eq_some_iff.1 hfi
   have hxl := (toVec_list hx2).2
   refine CW.drawsX ((ot, blk (u8s t1 ++ rt) 5) :: (some br, blk t2.C 62) :: ((oi, blk (cr ++ ri) 30) :: (B0 ++ N))) [8, 10] (fun w m => m.pick [0, 1] 4 rfl rfl) mixed (by kernel_rfl) (Z10 0 rfl (by kernel_rfl) rfl (Z3 rfl) rfl (Z10 1 rfl (by kernel_rfl) rfl (Z3 rfl) rfl (Z10 2 rfl (by kernel_rfl) rfl (RV.nilCheck rfl) rfl ?_)))
   refine XW.rv 3 rfl (by kernel_rfl) rfl (by kernel_rfl) (Z29 rfl (List.Mem.tail _ (List.Mem.tail _ (List.Mem.tail _ Zh))) rfl rfl rfl (List.getElem?_set_self hlt)) rfl ?_
   refine Z10 4 rfl (by kernel_rfl) rfl (Z3 rfl) rfl (Z10 5 rfl (by kernel_rfl) rfl (RV.s2a (k := 32) rfl rfl (hv.isSome (by decide) (i := 0) (by omega)) (by omega)) rfl (Z10 6 rfl (by kernel_rfl) rfl (Z110 rfl rfl rfl rfl (fun w m => hv.vec8 hx2 (m.sublist (List.singleton_sublist.2 (List.mem_cons_self ..)))) ((Z101 _).trans Zv)) rfl ?_))
   refine XW.new 7 rfl (by kernel_rfl) rfl (NV.bsA rfl rfl (by intro x hx; simp at hx; subst hx; exact (Z101 _).trans Zv) rfl rfl rfl (by decide) (by decide) rfl) rfl (fun bs => ?_)
   refine Z19 (M' := (ob', blk (hs32 tsi ++ r') 51) :: (some bs, blk (u8s x.toList ++ []) 51) :: (ot, blk (u8s t1 ++ rt) 5) :: (some br, blk t2.C 62) :: (some b, blk (l.set off (sl ob' 0 tsi.length c')) te) :: ((oi, blk (cr ++ ri) 30) :: (B0 ++ N))) (fun w m => m.pick [3, 0, 1, 2, 4] 5 rfl rfl) (fun w m => m.pick [2, 3] 5 rfl rfl) ?_
   refine XW.appendOwn 8 (s := 32) rfl (by kernel_rfl) rfl rfl rfl rfl rfl rfl hoi (fun w m => m.rd0 (List.Mem.tail _ Zh) (fun e => nomatch e)) ((Z101 _).trans Zv) (Z125 _) (fun e => nomatch e) (by decide) (by decide) (by simp only [i51]; omega) rfl ((tsi ++ [x]).length) (hs32 (tsi ++ [x])) (by simp) (by rw [hs32_app]; simp [hs32]) (fun w m => m.pick [1, 2] 4 rfl rfl) rfl (fun ob2 rr2 c2 o2 => ?_)
   refine Z10 9 rfl (by kernel_rfl) rfl (RV.nilCheck rfl) rfl (Z19 (M' := (some b, blk (l.set off (sl ob' 0 tsi.length c')) te) :: (ob2, blk (hs32 (tsi ++ [x]) ++ rr2) 51) :: (ot, blk (u8s t1 ++ rt) 5) :: (some br, blk t2.C 62) :: ((oi, blk (cr ++ ri) 30) :: (B0 ++ N))) (fun w m => m.pick [4, 0, 2, 3] 5 rfl rfl) (fun w m => m.pick [2, 3] 4 rfl rfl) ?_)
   refine XW.sv 10 rfl (by kernel_rfl) (SV.store rfl rfl rfl rfl rfl (by rw [List.length_set]; exact hlt)) (fun w m => m.pick [2, 3] 4 rfl rfl) ?_
   refine XW.cells (l.set off (sl ob2 0 (tsi ++ [x]).length c2)) (List.set_set ..) (XW.nil (by kernel_rfl) ?_)
   (refine Z27 ?_; refine Z1 ?_)
   refine Z2 (Z0 (RV.add rfl rfl (by omega)) rfl (Z0 (Z3 rfl) rfl (Z6 ?_)))
   refine Z109 (k' := p1.length - (i + 1)) (by omega) ⟨i + 1, t2, tsi ++ [x], ob2, c2, rr2, rfl, by omega, hfi, o2, rfl, rfl⟩ ⟨rfl, rfl, rfl, rfl, rfl, trivial⟩ (fun w m => m.pick [3, 1, 0] 4 rfl rfl)
  ·rw [if_neg he] at hfi
   (refine CW.skip ?_; refine Z27 ?_; refine Z1 ?_)
   refine Z2 (Z0 (RV.add rfl rfl (by omega)) rfl (Z0 (Z3 rfl) rfl (Z6 ?_)))
   refine Z109 (k' := p1.length - (i + 1)) (by omega) ⟨i + 1, t2, tsi, ob', c', r', rfl, by omega, hfi, hoi, rfl, rfl⟩ ⟨rfl, rfl, rfl, rfl, rfl, trivial⟩ (fun w m => m.tail)
 ·rw [List.drop_eq_nil_of_le (by omega), rtopicsF] at hfi
  obtain ⟨rfl, rfl⟩ := Prod.mk.inj (Zi hfi)
  (refine CW.exit ?_; refine Z9 ?_; refine Z9 ?_; refine Z15 ?_)
  refine Z102 (rs := []) [] ((some br, blk q.C 62) :: (ob', blk (hs32 tsi ++ r') 51) :: (some b, blk (l.set off (sl ob' 0 tsi.length c')) te) :: ((oi, blk (cr ++ ri) 30) :: B0)) rfl trivial rfl ⟨_, _, _, _, hoi, rfl, rfl⟩ (fun w m => m) _ (.inr rfl)
theorem receipt_ParseLog_own (w0 : World) (Φ : Ctx) (N : List Ent) (hΦ : ∀ w, Mem w0 w N → Φ w) (cs : List Value) (it : It) (x : Log) (e : Int) (hit : ItRd Φ cs it) (hf : receipt_ParseLog it = some (x, e)) :
  DoesG Try.prog 13 [.agg cs.toArray] w0 [] N (fun v G => ∃ (g : Lg) (B : List Ent), g.Ok ∧ g.val = x ∧ (0 ≤ e ∧ e ≤ 1000) ∧ v = .tuple #[.agg g.cells.toArray, .int .i64 e] ∧ G = g.ents 51 5 ++ B) := by
 have hcl : cs.length = 3 := ItRd.len _ _ hit
 unfold receipt_ParseLog at hf
 obtain ⟨⟨p1, p2⟩, hp, hf⟩ := Option.bind_eq_some_iff.1 hf
 dsimp only at hf
 have hbd := list_bd (r := ⟨0⟩) ⟨Int.le_refl _, by decide⟩ hp
 refine DoesG.enter Try.func13 rfl Try.ntmps13 rfl (M := N) rfl (Z4 (Z2 (OW.boxA rfl rfl (fun b1 => (OW.alloc (l := LogZ.C) rfl (by kernel_rfl) rfl (fun b2 => (Z0 (Z5 rfl) rfl (Z6 ?_))))))))
 (refine Z1 ?_; refine Z4 ?_)
 refine Z2 (OW.alloc (l := (⟨0⟩ : Rdr).C) rfl rfl rfl (fun b4 => (Z6 ?_)))
 (refine Z1 ?_; refine Z4 ?_)
 refine Z2 (OW.alloc (l := LogZ.C) rfl (by kernel_rfl) rfl (fun b5 => (Z6 ?_)))
 (refine Z1 ?_; refine Z4 ?_)
 refine CW.mem (M' := (some b4, blk (⟨0⟩ : Rdr).C 62) :: (some b1, blk cs 30) :: (some b5, blk LogZ.C 27) :: (some b2, blk LogZ.C 27) :: N) (fun w m => m.pick [1, 3, 0, 2] 4 rfl rfl) (Z2 (Z0 (Z22 rfl (List.Mem.tail _ Zh) rfl rfl rfl rfl hcl) rfl ?_))
 refine Z12 Try.call26 rfl (Z130 w0 Φ ((some b1, blk cs 30) :: (some b5, blk LogZ.C 27) :: (some b2, blk LogZ.C 27) :: N) (fun w m => hΦ w (m.drop 3)) b4 ⟨0⟩ cs it p1 p2 hit hp) rfl rfl ?_; rintro _ _ ⟨B0, cr, oi, ci, ri, hri, oo, rfl, rfl⟩; refine Z20 (M' := (some b4, blk p2.C 62) :: (some b5, blk LogZ.C 27) :: (some b2, blk LogZ.C 27) :: ((oi, blk (cr ++ ri) 30) :: (B0 ++ N))) (fun w m => (m.sk2.sk3.sk4).pick [1, 3, 4, 0] 5 rfl rfl) ?_
 refine Z0 (Z5 rfl) rfl (Z6 ?_)
 (refine Z1 ?_; refine Z4 ?_; refine Z4 ?_)
 have hK : ∀ w, Mem w0 w ((oi, blk (cr ++ ri) 30) :: (B0 ++ N)) → Φ w := fun w q => hΦ w q.tail.appR
 have hvi := oo.view (te := 30) (w0 := w0) (Ψ := fun w => Mem w0 w ((oi, blk (cr ++ ri) 30) :: (B0 ++ N))) (by decide) (fun w q => q.sublist (List.singleton_sublist.2 (List.mem_cons_self ..)))
 replace hri := hri.mono (ItRd.mono (Ψ := fun w => Mem w0 w ((oi, blk (cr ++ ri) 30) :: (B0 ++ N))) (fun w q => ⟨hK w q, q.tail.appL⟩))
 have hmi := oo.mx
 generalize hKe : ((oi, blk (cr ++ ri) 30) :: (B0 ++ N)) = K at hK hvi hri ⊢
 have hKN : ∃ BK, K = BK ++ N := ⟨_, by rw [← hKe, ← List.cons_append]⟩
 obtain ⟨BK, rfl⟩ := hKN
 clear hKe
 have fin0 : ∀ {w : World} {X : List Ent}, Mem w0 w (X ++ (BK ++ N)) → Mem w0 w ((LgZ.ents 51 5 ++ BK) ++ N) := fun m => by
  have m2 := nil2 (o := blk (hs32 LgZ.t ++ LgZ.tr) 51) (o2 := blk (u8s LgZ.d ++ LgZ.dr) 5) m.appR
  exact m2
 by_cases hc : p2.err = 0 ∧ p1.length = 3
 ·rw [if_pos hc] at hf
  obtain ⟨he, h3⟩ := hc
  obtain ⟨x0, hx0, hf⟩ := Option.bind_eq_some_iff.1 hf
  obtain ⟨⟨a1, a2⟩, ha, hf⟩ := Option.bind_eq_some_iff.1 hf
  obtain ⟨ad, had, hf⟩ := Option.bind_eq_some_iff.1 hf
  obtain ⟨x1, hx1, hf⟩ := Option.bind_eq_some_iff.1 hf
  obtain ⟨⟨t1, t2⟩, ht, hf⟩ := Option.bind_eq_some_iff.1 hf
  obtain ⟨x2, hx2, hf⟩ := Option.bind_eq_some_iff.1 hf
  obtain ⟨⟨d1, d2⟩, hd, hf⟩ := Option.bind_eq_some_iff.1 hf
  dsimp only at had hf ht hd
  have hbd2 := text_bd hbd ha
  have hbd3 := topics_bd hbd2 ht
  have hbd4 := text_bd hbd3 hd
  obtain ⟨c0, hc0, hcc0⟩ := hri.get ItRd.len hx0
  obtain ⟨c1, hc1, hcc1⟩ := hri.get ItRd.len hx1
  obtain ⟨c2, hc2, hcc2⟩ := hri.get ItRd.len hx2
  refine Z2 (Z0 (Z30 rfl rfl rfl rfl) rfl ?_)
  refine Z0 (Z29 rfl (by exact List.Mem.head _; done) rfl rfl rfl rfl) rfl ?_
  refine Z0 (RV.neq_f rfl rfl (by omega)) rfl (Z0 (Z3 rfl) rfl ?_)
  refine Z24 rfl ?_; refine Z0 (Z3 rfl) rfl ?_
  refine Z24 rfl ?_; refine Z0 (RV.len rfl rfl) rfl ?_
  refine Z24 rfl ?_; refine Z0 (RV.neq_f rfl rfl (by omega)) rfl ?_
  refine Z0 (Z108 rfl rfl rfl) rfl (Z6 (Z1 (CW.cond_f rfl ?_)))
  (refine CW.skip ?_; refine Z1 ?_; refine Z4 ?_; refine Z4 ?_)
  refine Z2 (Z0 (Z3 rfl) rfl (Z0 (Z105 (0) rfl rfl rfl rfl rfl (hvi.isSome (by decide) (i := 0) (by omega)) (by omega)) rfl (Z0 (Z110 rfl rfl rfl rfl (fun w m => hvi.load (m.drop 3) hcc0) (ItRd.len _ _ hc0)) rfl ?_)))
  refine Z12 Try.call27 rfl (Z120 w0 _ ((some b5, blk LogZ.C 27) :: (some b2, blk LogZ.C 27) :: (BK ++ N)) (fun w m => m.drop 2) b4 p2 c0 x0 20 a1 a2 hc0 (by omega) ha) rfl rfl ?_; rintro _ _ ⟨Ba, oa, ca, ra, oa1, rfl, rfl⟩; refine Z20 (M' := (oa, blk (u8s a1 ++ ra) 5) :: (some b5, blk LogZ.C 27) :: (some b4, blk a2.C 62) :: (some b2, blk LogZ.C 27) :: (BK ++ N)) (fun w m => by have m2 := (m.sk2.sk3).pick [0, 2, 1, 3] 4 rfl rfl; exact m2.sublist (List.Sublist.cons_cons _ (List.Sublist.cons_cons _ (List.Sublist.cons_cons _ (List.Sublist.cons_cons _ (List.sublist_append_right _ _)))))) ?_
  refine Z0 (Z5 rfl) rfl (Z6 ?_)
  (refine Z1 ?_; refine Z4 ?_)
  have hva := oa1.view (te := 5) (w0 := w0) (Ψ := fun w => Mem w0 w [(oa, blk (u8s a1 ++ ra) 5)]) (by decide) (fun w q => q)
  have hma := oa1.mx
  refine Z2 (Z0 (Z30 rfl rfl rfl rfl) rfl ?_)
  refine Z0 (Z29 rfl (by (refine List.Mem.tail _ ?_; refine List.Mem.tail _ ?_; exact List.Mem.head _); done) rfl rfl rfl rfl) rfl ?_
  refine Z0 (RV.eql rfl rfl) rfl (Z6 (Z1 ?_))
  refine Z115 (fun L' M' => L' = [(2, ptr (some b2) 0), (4, ptr (some b4) 0), (5, ptr (some b5) 0), (6, sl oi 0 p1.length ci)] ∧ M' = (some b5, blk (⟨ad, .slice none 0 0, .slice none 0 0⟩ : LogC).C 27) :: (some b4, blk a2.C 62) :: (some b2, blk LogZ.C 27) :: (BK ++ N)) ?_ ?_
  ·rintro L' M' ⟨rfl, rfl⟩
   (refine Z1 ?_; refine Z4 ?_)
   refine Z2 ?_
   refine Z0 (Z30 rfl rfl rfl rfl) rfl ?_; refine Z7 (ptr (some b5) 20) rfl ?_
   refine Z0 (Z3 rfl) rfl (Z0 (Z105 (1) rfl rfl rfl rfl rfl (hvi.isSome (by decide) (i := 0) (by omega)) (by omega)) rfl (Z0 (Z110 rfl rfl rfl rfl (fun w m => hvi.load (m.drop 3) hcc1) (ItRd.len _ _ hc1)) rfl ?_))
   refine Z20 (M' := (some b4, blk a2.C 62) :: (none, blk (hs32 [] ++ []) 51) :: (some b5, blk (⟨ad, .slice none 0 0, .slice none 0 0⟩ : LogC).C 27) :: ((some b2, blk LogZ.C 27) :: (BK ++ N))) (fun w m => (m.nil_ent (blk (hs32 [] ++ []) 51)).pick [2, 0, 1] 3 rfl rfl) ?_; refine Z12 Try.call28 rfl (rtopics_does w0 _ ((some b2, blk LogZ.C 27) :: (BK ++ N)) (fun w m => m.drop 1) b4 b5 20 (⟨ad, .slice none 0 0, .slice none 0 0⟩ : LogC).C 27 a2 t2 c1 x1 none 0 [] [] t1 hc1 OwnS.nil (Z106 _) ht) rfl rfl ?_; rintro _ _ ⟨Bt, ot, ct, rt, oto, rfl, rfl⟩; refine Z20 (M' := (some b5, blk ((⟨ad, .slice none 0 0, .slice none 0 0⟩ : LogC).C.set 20 (sl ot 0 t1.length ct)) 27) :: (some b4, blk t2.C 62) :: (ot, blk (hs32 t1 ++ rt) 51) :: (some b2, blk LogZ.C 27) :: (BK ++ N)) (fun w m => by have m2 := (m.sk3).pick [2, 0, 1, 3] 4 rfl rfl; exact m2.sublist (List.Sublist.cons_cons _ (List.Sublist.cons_cons _ (List.Sublist.cons_cons _ (List.Sublist.cons_cons _ (List.sublist_append_right _ _)))))) ?_; refine OW.cells (⟨ad, sl ot 0 t1.length ct, .slice none 0 0⟩ : LogC).C (LogC.C_topics_set _ _) ?_
   refine Z6 ?_
   (refine Z1 ?_; refine Z4 ?_)
   refine Z2 (Z0 (Z3 rfl) rfl (Z0 (Z105 (2) rfl rfl rfl rfl rfl (hvi.isSome (by decide) (i := 0) (by omega)) (by omega)) rfl (Z0 (Z110 rfl rfl rfl rfl (fun w m => hvi.load (m.drop 4) hcc2) (ItRd.len _ _ hc2)) rfl ?_)))
   refine OW.rot1 ?_; refine Z12 Try.call27 rfl (Z120 w0 _ ((some b5, blk (⟨ad, sl ot 0 t1.length ct, .slice none 0 0⟩ : LogC).C 27) :: (ot, blk (hs32 t1 ++ rt) 51) :: (some b2, blk LogZ.C 27) :: (BK ++ N)) (fun w m => m.drop 3) b4 t2 c2 x2 (-1) d1 d2 hc2 (by omega) hd) rfl rfl ?_; rintro _ _ ⟨Bd, od, cd, rd, odo, rfl, rfl⟩; refine Z20 (M' := (some b5, blk (⟨ad, sl ot 0 t1.length ct, .slice none 0 0⟩ : LogC).C 27) :: (some b4, blk d2.C 62) :: (ot, blk (hs32 t1 ++ rt) 51) :: (od, blk (u8s d1 ++ rd) 5) :: (some b2, blk LogZ.C 27) :: (BK ++ N)) (fun w m => by have m2 := (m.sk2.sk3.sk4).pick [2, 1, 3, 0, 4] 5 rfl rfl; exact m2.sublist (List.Sublist.cons_cons _ (List.Sublist.cons_cons _ (List.Sublist.cons_cons _ (List.Sublist.cons_cons _ (List.Sublist.cons_cons _ (List.sublist_append_right _ _))))))) ?_
   refine Z0 (Z30 rfl rfl rfl rfl) rfl ?_
   refine Z28 (SV.store rfl rfl rfl rfl rfl (by rw [LogC.C_length]; exact Nat.le_of_ble_eq_true rfl)) ?_; refine OW.cells (⟨ad, sl ot 0 t1.length ct, sl od 0 d1.length cd⟩ : LogC).C (LogC.C_data_set _ _) ?_
   refine Z6 ?_
   (refine Z1 ?_; refine Z4 ?_; refine Z4 ?_)
   have hmt := oto.mx
   have hmd := odo.mx
   refine Z2 (Z0 (Z30 rfl rfl rfl rfl) rfl ?_)
   refine Z0 (Z29 rfl (by (refine List.Mem.tail _ ?_; exact List.Mem.head _); done) rfl rfl rfl rfl) rfl ?_
   refine Z0 (RV.neq rfl rfl) rfl (Z6 (Z1 (CW.mem (M' := (some b2, blk LogZ.C 27) :: (some b5, blk (⟨ad, sl ot 0 t1.length ct, sl od 0 d1.length cd⟩ : LogC).C 27) :: (some b4, blk d2.C 62) :: (ot, blk (hs32 t1 ++ rt) 51) :: (od, blk (u8s d1 ++ rd) 5) :: (BK ++ N)) (fun w m => m.pick [4, 0, 1, 2, 3] 5 rfl rfl) ?_)))
   refine CW.cond_np rfl (fun hde => ?_) (fun hde => ?_)
   ·rw [if_neg hde] at hf
    obtain ⟨rfl, rfl⟩ := Prod.mk.inj (Zi hf)
    refine Z4 (CW.drawsX ((some b4, blk d2.C 62) :: (BK ++ N)) [3] (fun w m => m.pick [2] 5 rfl rfl) mixed (by kernel_rfl) (Z10 0 rfl (by kernel_rfl) rfl (Z111 (l := LogZ.C) (cs := LogZ.C) [] rfl rfl rfl (by kernel_rfl) rfl rfl rfl) rfl (Z10 1 rfl (by kernel_rfl) rfl (Z30 rfl rfl rfl rfl) rfl (Z10 2 rfl (by kernel_rfl) rfl (Z29 rfl Zh rfl rfl rfl (Rdr.C_err _)) rfl (XW.sv 3 rfl (by kernel_rfl) (Z104 rfl rfl rfl (LogC.C_one _ rfl rfl) rfl (LogC.C_length _) (LogC.C_length _)) (fun w m => m.pick [2] 5 rfl rfl) (Z10 4 rfl (by kernel_rfl) rfl (Z5 rfl) rfl (XW.nil (by kernel_rfl) ?_)))))))
    (refine Z1 ?_; refine CW.ret ?_; refine Z8 ?_)
    refine Z102 (rs := [.cell 2 27, .tmp 3]) [.agg LgZ.cells.toArray, .int .i64 d2.err] (LgZ.ents 51 5 ++ BK) rfl ?_ rfl ⟨LgZ, BK, LgZ_ok, rfl, hbd4, rfl, rfl⟩ (fun w m => fin0 (X := [_, _, _, _, _]) m) _ (.inl rfl)
    exact ⟨⟨_, _, _, _, rfl, List.Mem.head _, rfl, rfl, congrArg some (LogC.C_length _).symm, rfl⟩, rfl, trivial⟩
   ·rw [if_pos hde] at hf
    (refine CW.skip ?_; refine Z1 ?_; refine Z4 ?_; refine Z4 ?_)
    refine Z2 (Z0 (Z30 rfl rfl rfl rfl) rfl (Z0 (Z29 rfl (List.Mem.tail _ Zh) rfl rfl rfl (Z106 _)) rfl (Z0 (RV.len rfl rfl) rfl (Z0 (RV.gtr rfl rfl) rfl (Z6 (Z1 ?_))))))
    refine Z138 rfl (fun h4 => ?_) (fun h4 => ?_)
    ·rw [if_pos (by omega)] at hf
     obtain ⟨rfl, rfl⟩ := Prod.mk.inj (Zi hf)
     refine Z4 (Z2 (Z0 (Z111 (l := LogZ.C) (cs := LogZ.C) [] rfl rfl rfl (by kernel_rfl) rfl rfl rfl) rfl (Z28 (Z104 rfl rfl rfl (LogC.C_one _ rfl rfl) rfl (LogC.C_length _) (LogC.C_length _)) (Z0 (Z5 rfl) rfl (Z6 ?_)))))
     (refine Z1 ?_; refine CW.ret ?_; refine Z8 ?_)
     refine Z102 (rs := [.cell 2 27, .tmp 3]) [.agg LgZ.cells.toArray, .int .i64 174] (LgZ.ents 51 5 ++ BK) rfl ?_ rfl ⟨LgZ, BK, LgZ_ok, rfl, by omega, rfl, rfl⟩ (fun w m => fin0 (X := [_, _, _, _, _]) m) _ (.inl rfl)
     exact ⟨⟨_, _, _, _, rfl, List.Mem.head _, rfl, rfl, congrArg some (LogC.C_length _).symm, rfl⟩, rfl, trivial⟩
    ·rw [if_neg (by omega)] at hf
     obtain ⟨rfl, rfl⟩ := Prod.mk.inj (Zi hf)
     (refine CW.skip ?_; refine Z1 ?_; refine Z4 ?_)
     refine Z2 (Z0 (Z22 rfl (List.Mem.tail _ Zh) rfl rfl rfl rfl (LogC.C_length _)) rfl (Z28 (Z104 rfl rfl rfl (LogC.C_one _ rfl rfl) rfl (LogC.C_length _) (LogC.C_length _)) (Z0 (Z5 rfl) rfl (Z6 ?_))))
     (refine Z1 ?_; refine CW.ret ?_)
     refine Z102 (rs := [.cell 2 27, .tmp 3]) [.agg (⟨ad, ot, t1, ct, rt, od, d1, cd, rd⟩ : Lg).cells.toArray, .int .i64 0] ((⟨ad, ot, t1, ct, rt, od, d1, cd, rd⟩ : Lg).ents 51 5 ++ BK) rfl ?_ rfl ⟨⟨ad, ot, t1, ct, rt, od, d1, cd, rd⟩, BK, ⟨oto, odo⟩, rfl, by omega, rfl, rfl⟩ (fun w m => m.drop 3) _ (.inl rfl)
     exact ⟨⟨_, _, _, _, rfl, List.Mem.head _, rfl, rfl, congrArg some (LogC.C_length _).symm, rfl⟩, rfl, trivial⟩
  ·refine Z138 rfl (fun ha2 => ?_) (fun ha2 => ?_)
   ·rw [if_pos ha2] at had
    have hxl := (toVec_list had).2
    refine Z2 (Z0 (Z3 rfl) rfl (Z0 (RV.s2a (k := 20) rfl rfl (hva.isSome (by decide) (i := 0) (by omega)) (by omega)) rfl (Z0 (Z110 rfl rfl rfl rfl (fun w m => hva.vec8 had (m.sublist (List.singleton_sublist.2 (List.mem_cons_self ..)))) ((Z101 _).trans Zv)) rfl (Z0 (Z30 rfl rfl rfl rfl) rfl ?_))))
    refine OW.rot1 ?_; refine Z28 (SV.storeAs rfl rfl rfl (Z125 _) rfl ((Z101 _).trans Zv) (by rw [LogC.C_length]; exact Nat.le_of_ble_eq_true rfl)) ?_; refine OW.cells (⟨ad, .slice none 0 0, .slice none 0 0⟩ : LogC).C (LogC.C_address_spl _ _) ?_
    refine Z6 ?_
    refine QW.join ⟨rfl, rfl⟩ ⟨rfl, rfl, rfl, rfl, trivial⟩ (fun w m => m.pick [0, 2, 3] 4 rfl rfl)
   ·rw [if_neg ha2] at had
    obtain rfl := Zi had
    refine CW.skip ?_
    refine QW.join ⟨rfl, rfl⟩ ⟨rfl, rfl, rfl, rfl, trivial⟩ (fun w m => m.pick [1, 2, 3] 4 rfl rfl)
 ·rw [if_neg hc] at hf
  obtain ⟨rfl, rfl⟩ := Prod.mk.inj (Zi hf)
  by_cases he : p2.err = 0
  ·skip
   refine Z2 (Z0 (Z30 rfl rfl rfl rfl) rfl ?_)
   refine Z0 (Z29 rfl (by exact List.Mem.head _; done) rfl rfl rfl rfl) rfl ?_
   refine Z0 (RV.neq_f rfl rfl (by omega)) rfl (Z0 (Z3 rfl) rfl ?_)
   refine Z24 rfl ?_; refine Z0 (Z3 rfl) rfl ?_
   refine Z24 rfl ?_; refine Z0 (RV.len rfl rfl) rfl ?_
   refine Z24 rfl ?_; refine Z0 (RV.neq_t rfl rfl (by omega)) rfl ?_
   refine Z0 (Z108 rfl rfl rfl) rfl (Z6 (Z1 (CW.cond_t rfl (CW.mem (M' := (some b2, blk LogZ.C 27) :: (BK ++ N)) (fun w m => m.drop 2) (Z4 (Z2 (Z0 (Z111 (l := LogZ.C) (cs := LogZ.C) [] rfl rfl rfl (by kernel_rfl) rfl rfl rfl) rfl (Z28 (Z104 rfl rfl rfl (LogC.C_one _ rfl rfl) rfl (LogC.C_length _) (LogC.C_length _)) (Z0 (Z5 rfl) rfl ?_)))))))))
   refine Z6 ?_
   (refine Z1 ?_; refine CW.ret ?_; refine Z8 ?_)
   refine Z102 (rs := [.cell 2 27, .tmp 3]) [.agg LgZ.cells.toArray, .int .i64 172] (LgZ.ents 51 5 ++ BK) rfl ?_ rfl ⟨LgZ, BK, LgZ_ok, rfl, by omega, rfl, rfl⟩ (fun w m => fin0 (X := [_]) m) _ (.inl rfl)
   exact ⟨⟨_, _, _, _, rfl, List.Mem.head _, rfl, rfl, congrArg some (LogC.C_length _).symm, rfl⟩, rfl, trivial⟩
  ·skip
   refine Z2 (Z0 (Z30 rfl rfl rfl rfl) rfl ?_)
   refine Z0 (Z29 rfl (by exact List.Mem.head _; done) rfl rfl rfl rfl) rfl ?_
   refine Z0 (RV.neq_t rfl rfl (by omega)) rfl (Z0 (Z3 rfl) rfl (Z23 rfl rfl rfl (Z23 rfl rfl rfl (Z23 rfl rfl rfl (Z0 (Z112 rfl rfl rfl) rfl (Z6 (Z1 (CW.cond_t rfl ?_))))))))
   refine CW.mem (M' := (some b2, blk LogZ.C 27) :: (BK ++ N)) (fun w m => m.drop 2) (Z4 (Z2 (Z0 (Z111 (l := LogZ.C) (cs := LogZ.C) [] rfl rfl rfl (by kernel_rfl) rfl rfl rfl) rfl (Z28 (Z104 rfl rfl rfl (LogC.C_one _ rfl rfl) rfl (LogC.C_length _) (LogC.C_length _)) (Z0 (Z5 rfl) rfl (Z6 ?_))))))
   (refine Z1 ?_; refine CW.ret ?_; refine Z8 ?_)
   refine Z102 (rs := [.cell 2 27, .tmp 3]) [.agg LgZ.cells.toArray, .int .i64 172] (LgZ.ents 51 5 ++ BK) rfl ?_ rfl ⟨LgZ, BK, LgZ_ok, rfl, by omega, rfl, rfl⟩ (fun w m => fin0 (X := [_]) m) _ (.inl rfl)
   exact ⟨⟨_, _, _, _, rfl, List.Mem.head _, rfl, rfl, congrArg some (LogC.C_length _).symm, rfl⟩, rfl, trivial⟩
abbrev TwC (gs : List Lg) (m : Nat) : List Value := lgC gs ++ (zc m ++ LgMk.C)
theorem waybilllaw17_twin_own (w0 : World) (Φ : Ctx) (N : List Ent) (hΦ : ∀ w, Mem w0 w N → Φ w) (A : Option Addr) (c : Nat) (cs : List Value) (logs x : List Log) (va : View Φ A logs.length c 22 cs) (ha : Reps (LogRd Φ) cs logs) (hf : waybilllaw17_twin logs = some x) :
  DoesG Try.prog 5 [.slice A logs.length c] w0 [] N (fun v G => ∃ (gs : List Lg) (b : Nat), (∀ g ∈ gs, LgM g) ∧ gs.map Lg.val = x ∧ x.length * 72 ≤ 140737488355328 ∧ v = sl (some b) 0 x.length (x.length + 1) ∧ G = (some b, blk (lgC gs ++ LgMk.C) 27) :: lgs 51 5 gs) := by
 have hm := va.mx
 unfold waybilllaw17_twin at hf
 obtain ⟨hfit, hf⟩ := Z116 hf
 obtain rfl := Zi hf
 simp only [twfit, Bool.and_eq_true, List.all_eq_true, decide_eq_true_eq] at hfit
 obtain ⟨hfit1, hfit2⟩ := hfit
 refine DoesG.enter Try.func5 rfl Try.ntmps5 rfl (M := N) rfl (Z4 (Z2 (Z0 (Z5 rfl) rfl (Z6 ?_))))
 (refine Z1 ?_; refine Z4 ?_)
 refine Z2 (Z0 (Z3 rfl) rfl (Z0 (RV.len rfl rfl) rfl (Z0 (RV.add rfl rfl (by omega)) rfl (OW.makeS (zs := LogZ0.C) (logs.length + 1) (logs.length + 1) rfl (by omega) rfl (by omega) rfl rfl rfl (by kernel_rfl) (LogC.C_length _) (by omega) (by simp only [i27]; omega) (by omega) rfl (fun b9 => (Z0 (Z5 rfl) rfl (Z6 ?_)))))))
 (refine Z1 ?_; refine Z4 ?_)
 refine Z2 (Z0 (Z3 rfl) rfl (Z0 (Z3 rfl) rfl (Z0 (RV.len rfl rfl) rfl (Z0 (Z144 (l := List.replicate 20 (.int .u8 0)) (cs := u8s mk20.toList) rfl rfl rfl (by kernel_rfl) rfl rfl rfl) rfl ?_))))
 refine Z0 (Z111 (l := LogZ0.C) (cs := LgMk.C) [(0, u8s mk20.toList)] rfl rfl rfl (by kernel_rfl) rfl rfl (by refine (fillL_cons rfl ((Z101 _).trans Zv) (by rw [LogC.C_length]; exact Nat.le_of_ble_eq_true rfl)).trans ?_; rw [LogC.C_address_spl]; rfl)) rfl ?_
 refine Z0 (Z128 (logs.length) rfl rfl rfl rfl rfl rfl (by omega)) rfl ?_
 refine Z28 (SV.storeAs rfl rfl rfl (LogC.C_one _ rfl rfl) rfl (LogC.C_length _) (by show 0 + logs.length * 22 + 22 ≤ (zc (logs.length + 1)).length; rw [zc_length]; omega)) ?_; refine OW.cells (TwC [] logs.length) (by rw [Nat.zero_add]; exact tw_mark _) ?_
 refine Z6 ?_
 (refine Z1 ?_; refine Z4 ?_; refine Z4 ?_)
 refine Z2 (Z0 (Z5 rfl) rfl (Z6 ?_))
 (refine Z1 ?_; refine CW.block ?_)
 refine Z114 (fun k L' M' => ∃ (i : Nat) (gs : List Lg), k = logs.length - i ∧ i ≤ logs.length ∧ gs.map Lg.val = logs.take i ∧ (∀ g ∈ gs, LgM g) ∧ L' = [(0, .slice A logs.length c), (3, sl (some b9) 0 (logs.length + 1) (logs.length + 1)), (4, .int .i64 (i : Int))] ∧
  M' = (some b9, blk (TwC gs (logs.length - i)) 27) :: (lgs 51 5 gs ++ N)) (k0 := logs.length) ⟨0, [], rfl, by omega, rfl, (fun g hg => by cases hg), rfl, rfl⟩ ⟨rfl, rfl, rfl, trivial⟩ (fun w m => m) ?_
 rintro k L' M' ⟨i, gs, rfl, hi, hgv, hok, rfl, rfl⟩
 have hgl : gs.length = i := by have := congrArg List.length hgv; rw [List.length_map, List.length_take] at this; omega
 (refine Z4 ?_; refine Z4 ?_)
 refine Z2 (Z0 (Z3 rfl) rfl (Z0 (Z3 rfl) rfl (Z0 (RV.len rfl rfl) rfl (Z0 (RV.lss rfl rfl) rfl (Z6 (Z1 ?_))))))
 refine Z138 rfl (fun hlt2 => ?_) (fun hlt2 => ?_)
 ·have h1 : i < logs.length := by omega
  have hx : logs[i]? = some logs[i] := List.getElem?_eq_getElem h1
  obtain ⟨ci, hci, hcc⟩ := ha.get LogRd.len hx
  obtain ⟨At, ct, cst, Ad, cd, rfl, vt, ht, vd⟩ := LogRd.opn hci
  have hst := hs32_of ht
  subst hst
  obtain ⟨hfx, hfd⟩ := hfit1 _ (List.getElem_mem h1)
  have hmt := vt.mx
  have hmd := vd.mx
  have hsome := va.isSome (by decide) h1
  generalize hlx : logs[i] = lx at *
  (refine CW.skip ?_; refine Z1 ?_; refine Z4 ?_; refine CW.block ?_; refine Z4 ?_)
  refine Z2 (Z0 (Z3 rfl) rfl (Z0 (Z3 rfl) rfl (Z0 (Z105 (i) rfl rfl rfl rfl rfl hsome (by omega)) rfl (Z0 (Z31 rfl rfl rfl rfl) rfl (Z0 (Z21 rfl rfl rfl (fun w m => va.load_fld (hΦ w (m.drop 1).appR) hcc (Z106 _))) rfl (Z0 (RV.len rfl rfl) rfl (Z0 (RV.add rfl rfl (by omega)) rfl ?_)))))))
  refine OW.makeS (zs := u8s (Vector.replicate 32 0#8).toList) (lx.topics.length + 1) (lx.topics.length + 1) rfl (by omega) rfl (by omega) rfl rfl rfl (by kernel_rfl) ((Z101 _).trans Zv) (by omega) (by simp only [i51]; omega) (by omega) rfl (fun bt => (Z0 (Z5 rfl) rfl (Z6 ?_)))
  (refine Z1 ?_; refine Z4 ?_)
  refine Z2 (Z0 (Z3 rfl) rfl (Z0 (Z3 rfl) rfl (Z0 (Z3 rfl) rfl (Z0 (Z105 (i) rfl rfl rfl rfl rfl hsome (by omega)) rfl (Z0 (Z31 rfl rfl rfl rfl) rfl (Z0 (Z21 rfl rfl rfl (fun w m => va.load_fld (hΦ w (m.drop 2).appR) hcc (Z106 _))) rfl ?_))))))
  refine OW.copyS (s := 32) rfl rfl rfl rfl (fun e => nomatch e) (by rw [Nat.zero_add, List.length_flatten, List.map_replicate, List.sum_replicate_nat, Z101, Zv]; exact Nat.le_refl _) (fun w m => vt.rd w (hΦ w (m.drop 2).appR)) vt.n (hs32_one _) (vt.zero (by decide)) rfl ?_; refine OW.cells (hs32 lx.topics ++ u8s (Vector.replicate 32 0#8).toList) (make_copyS (hs32 lx.topics) (u8s (Vector.replicate 32 0#8).toList) ((Z101 _).trans Zv) (Z126 _) (by omega)) ?_
  refine Z6 ?_
  (refine Z1 ?_; refine Z4 ?_)
  refine Z2 (Z0 (Z3 rfl) rfl (Z0 (Z3 rfl) rfl (Z0 (Z3 rfl) rfl (Z0 (Z105 (i) rfl rfl rfl rfl rfl hsome (by omega)) rfl (Z0 (Z31 rfl rfl rfl rfl) rfl (Z0 (Z21 rfl rfl rfl (fun w m => va.load_fld (hΦ w (m.drop 2).appR) hcc (Z106 _))) rfl (Z0 (RV.len rfl rfl) rfl ?_)))))))
  refine Z0 (Z144 (l := List.replicate 32 (.int .u8 0)) (cs := u8s mk32.toList) rfl rfl rfl (by kernel_rfl) rfl rfl rfl) rfl (Z0 (Z128 (lx.topics.length) rfl rfl rfl rfl rfl rfl (by omega)) rfl ?_)
  refine Z28 (SV.storeAs rfl rfl rfl (Z125 _) rfl ((Z101 _).trans Zv) (by show 0 + lx.topics.length * 32 + 32 ≤ _; rw [List.length_append, Z126, Z101, Zv]; omega)) ?_; refine OW.cells (hs32 lx.topics ++ u8s mk32.toList) (by rw [Nat.zero_add]; exact tw_topic _ _ ((Z101 _).trans Zv)) ?_
  refine Z6 (Z1 (CW.drawsX ((some bt, blk (hs32 lx.topics ++ u8s mk32.toList) 51) :: (lgs 51 5 gs ++ N)) [23] (fun w m => m.pick [0] 2 rfl rfl) mixed (by kernel_rfl) (Z10 0 rfl (by kernel_rfl) rfl (Z3 rfl) rfl (Z10 1 rfl (by kernel_rfl) rfl (Z3 rfl) rfl (Z10 2 rfl (by kernel_rfl) rfl (Z3 rfl) rfl (Z10 3 rfl (by kernel_rfl) rfl (Z3 rfl) rfl (Z10 4 rfl (by kernel_rfl) rfl (Z105 (i) rfl rfl rfl rfl rfl hsome (by omega)) rfl (Z10 5 rfl (by kernel_rfl) rfl (Z31 rfl rfl rfl rfl) rfl ?_))))))))
  refine Z10 6 rfl (by kernel_rfl) rfl (Z110 rfl rfl rfl rfl (fun w m => va.load_part (hΦ w (m.drop 1).appR) hcc (Z121 _)) ((Z101 _).trans Zv)) rfl (Z10 7 rfl (by kernel_rfl) rfl (Z3 rfl) rfl (Z10 8 rfl (by kernel_rfl) rfl (Z3 rfl) rfl (Z10 9 rfl (by kernel_rfl) rfl (Z3 rfl) rfl (Z10 10 rfl (by kernel_rfl) rfl (Z105 (i) rfl rfl rfl rfl rfl hsome (by omega)) rfl (Z10 11 rfl (by kernel_rfl) rfl (Z31 rfl rfl rfl rfl) rfl (Z10 12 rfl (by kernel_rfl) rfl (Z21 rfl rfl rfl (fun w m => va.load_fld (hΦ w (m.drop 1).appR) hcc (Z106 _))) rfl (Z10 13 rfl (by kernel_rfl) rfl (RV.len rfl rfl) rfl ?_)))))))
  refine Z10 14 rfl (by kernel_rfl) rfl (RV.cut_o (lx.topics.length) rfl rfl rfl rfl rfl (by omega)) rfl (Z10 15 rfl (by kernel_rfl) rfl (Z3 rfl) rfl (Z10 16 rfl (by kernel_rfl) rfl (Z3 rfl) rfl (Z10 17 rfl (by kernel_rfl) rfl (Z105 (i) rfl rfl rfl rfl rfl hsome (by omega)) rfl (Z10 18 rfl (by kernel_rfl) rfl (Z31 rfl rfl rfl rfl) rfl (Z10 19 rfl (by kernel_rfl) rfl (Z21 rfl rfl rfl (fun w m => va.load_fld (hΦ w (m.drop 1).appR) hcc (Z124 _))) rfl ?_)))))
  refine Z11 20 rfl (by kernel_rfl) rfl Try.call18 rfl (fun N' hN' => waybilllaw17_lent_raw w0 Φ N' (fun w m => hΦ w ((hN' w m).drop 2).appR) Ad cd lx.data lx.data vd (by unfold waybilllaw17_lent lentN; exact if_pos (by omega))) rfl ?_
  rintro _ _ ⟨bd, od, _, rfl, rfl⟩
  generalize hg : (⟨lx.address, some bt, lx.topics, lx.topics.length + 1, u8s mk32.toList, some bd, lx.data, lx.data.length + 70, u8s (List.replicate 70 195#8) ++ []⟩ : Lg) = g
  have gm : LgM g := by
   rw [← hg]
   exact ⟨⟨⟨Z126 _, by show (hs32 lx.topics ++ u8s mk32.toList).length = (lx.topics.length + 1) * 32; rw [List.length_append, Z126, Z101, Zv]; omega, (fun e => nomatch e), by show lx.topics.length ≤ _; omega⟩, od⟩, rfl, rfl, rfl, rfl, by show lx.topics.length + 1 ≤ _; omega, by show lx.data.length + 70 ≤ _; omega⟩
  have gval : g.val = lx := by rw [← hg]; rfl
  have gent : g.ents 51 5 = [(some bt, blk (hs32 lx.topics ++ u8s mk32.toList) 51), (some bd, blk (u8s lx.data ++ (u8s (List.replicate 70 195#8) ++ [])) 5)] := by rw [← hg]; rfl
  refine Z10 21 rfl (by kernel_rfl) rfl (Z111 (l := LogZ0.C) (cs := g.cells) [(0, u8s lx.address.toList), (1, [sl (some bt) 0 lx.topics.length (lx.topics.length + 1)]), (2, [sl (some bd) 0 lx.data.length (lx.data.length + 70)])] rfl rfl rfl (by kernel_rfl) rfl rfl (by
   rw [← hg]
   refine (fillL_cons rfl ((Z101 _).trans Zv) (by rw [LogC.C_length]; exact Nat.le_of_ble_eq_true rfl)).trans ?_; rw [LogC.C_address_spl]
   refine (fillL_cons rfl rfl (by rw [LogC.C_length]; exact Nat.le_of_ble_eq_true rfl)).trans ?_; rw [spl_one (by rw [LogC.C_length]; exact Nat.le_of_ble_eq_true rfl), LogC.C_topics_set]
   refine (fillL_cons rfl rfl (by rw [LogC.C_length]; exact Nat.le_of_ble_eq_true rfl)).trans ?_; rw [spl_one (by rw [LogC.C_length]; exact Nat.le_of_ble_eq_true rfl), LogC.C_data_set]
   rfl)) rfl ?_
  refine Z10 22 rfl (by kernel_rfl) rfl (Z128 (i) rfl rfl rfl rfl rfl rfl (by omega)) rfl (Z19 (M' := (some b9, blk (TwC gs (logs.length - i)) 27) :: (some bt, blk (hs32 lx.topics ++ u8s mk32.toList) 51) :: (some bd, blk (u8s lx.data ++ (u8s (List.replicate 70 195#8) ++ [])) 5) :: (lgs 51 5 gs ++ N)) (fun w m => m.pick [2, 1, 0] 3 rfl rfl) (fun w m => m.pick [1] 3 rfl rfl) ?_)
  refine XW.sv 23 rfl (by kernel_rfl) (SV.storeAs rfl rfl rfl g.cells_one rfl g.cells_length (by show 0 + i * 22 + 22 ≤ _; rw [List.length_append, List.length_append, lgC_length, zc_length, LogC.C_length]; omega)) (fun w m => m.pick [1] 3 rfl rfl) ?_
  refine XW.cells (TwC (gs ++ [g]) (logs.length - (i + 1))) (by rw [show logs.length - i = (logs.length - (i + 1)) + 1 by omega]; exact tw_set (show 0 + i * 22 = gs.length * 22 by omega)) ?_
  refine XW.nil (by kernel_rfl) ?_
  (refine Z27 ?_; refine Z1 ?_)
  refine Z2 (Z0 (Z3 rfl) rfl (Z0 (RV.add rfl rfl (by omega)) rfl (Z0 (Z5 rfl) rfl (Z6 ?_))))
  refine Z109 (k' := logs.length - (i + 1)) (by omega) ⟨i + 1, gs ++ [g], rfl, by omega, by rw [List.map_append, hgv, List.take_add_one, hx, List.map_cons, gval]; rfl, ?_, rfl, rfl⟩ ⟨rfl, rfl, rfl, trivial⟩ (fun w m => lgs_snoc (X := [_]) (by rw [gent]; exact m)) 
  intro x hx
  rcases List.mem_append.1 hx with hx | hx
  ·exact hok x hx
  ·obtain rfl := List.mem_singleton.1 hx
   exact gm
 ·have hie : i = logs.length := by omega
  subst hie
  rw [List.take_length] at hgv
  (refine CW.exit ?_; refine Z9 ?_; refine Z9 ?_; refine Z15 ?_; refine Z1 ?_; refine Z4 ?_)
  refine Z2 (Z0 (Z3 rfl) rfl (Z0 (Z3 rfl) rfl (Z0 (RV.len rfl rfl) rfl (Z0 (RV.cut_o _ rfl rfl rfl rfl rfl (by omega)) rfl (Z0 (Z5 rfl) rfl (Z6 ?_))))))
  (refine Z1 ?_; refine CW.ret ?_)
  refine Z102 (rs := [.tmp 2]) [sl (some b9) 0 logs.length (logs.length + 1)] ((some b9, blk (lgC gs ++ LgMk.C) 27) :: lgs 51 5 gs) rfl ?_ rfl ⟨gs, b9, hok, hgv, hfit2, rfl, rfl⟩ (fun w m => ?_) _ (.inl rfl)
  ·exact ⟨rfl, trivial⟩
  ·rw [Nat.sub_self] at m
   exact m
theorem waybilllaw17_twin_does (w0 : World) (Φ : Ctx) (N : List Ent) (hΦ : ∀ w, Mem w0 w N → Φ w) (A : Option Addr) (c : Nat) (cs : List Value) (logs x : List Log) (va : View Φ A logs.length c 22 cs) (ha : Reps (LogRd Φ) cs logs) (hf : waybilllaw17_twin logs = some x) :
  DoesG Try.prog 5 [.slice A logs.length c] w0 [] N (fun v G => ∃ B : List Ent, ∃ Ar0 : Option Addr, ∃ kr0 : Nat, LRooms (More w0 Φ B) Ar0 kr0 x ∧ v = .slice Ar0 x.length kr0 ∧ G = B) :=
 (waybilllaw17_twin_own w0 Φ N hΦ A c cs logs x va ha hf).mono fun v G ⟨gs, b, hok, hv, hl, e1, e2⟩ => by
  subst hv e1 e2
  have hr := lgm_reps (w0 := w0) (Φ := More w0 Φ ((some b, blk (lgC gs ++ LgMk.C) 27) :: lgs 51 5 gs)) (tH := 51) (tB := 5) hok (fun w q => q.2.tail)
  have hc : (lgC gs ++ LgMk.C).length = ((gs.map Lg.val).length + 1) * 22 := by rw [List.length_append, lgC_length, LogC.C_length, List.length_map]; omega
  have ho : OwnS (some b) ((gs.map Lg.val).length + 1) ((gs.map Lg.val).length + 1) 22 (lgC gs ++ LgMk.C) [] := ⟨hc, by rw [List.append_nil]; exact hc, (fun e => nomatch e), by omega⟩
  have hvl := ho.view (te := 27) (w0 := w0) (Ψ := More w0 Φ ((some b, blk (lgC gs ++ LgMk.C) 27) :: lgs 51 5 gs)) (by decide) (fun w q => by rw [List.append_nil]; exact q.2.sublist (List.singleton_sublist.2 (List.mem_cons_self ..)))
  exact ⟨_, _, _, LRooms.mk hvl hr, rfl, rfl⟩
theorem waybilllaw17_stillLogs_does (w0 : World) (Φ : Ctx) (N : List Ent) (hΦ : ∀ w, Mem w0 w N → Φ w) (A0 : Option Addr) (c0 : Nat) (x : List Log) (A1 : Option Addr) (c1 : Nat) (cs1 : List Value) (y : List Log) (r : Bool) (h0 : LRooms Φ A0 c0 x) (va1 : View Φ A1 y.length c1 22 cs1) (ha1 : Reps (LogRd Φ) cs1 y) (hf : waybilllaw17_stillLogs x y = some r) :
  DoesG Try.prog 11 [.slice A0 x.length c0, .slice A1 y.length c1] w0 [] N (fun v G => v = .bool r) := by
 obtain ⟨rfl, rfl, hsame⟩ := stillLogs_true hf
 obtain ⟨cs, vb, v0, r0⟩ := h0.opn
 have rl := r0.mono LmRd.log
 have hm := vb.mx
 have hle := vb.le
 have hlen := r0.len LmRd.len
 have hs0 : A0.isSome = true := vb.isSome (by decide) (i := 0) (by omega)
 refine DoesG.enter Try.func11 rfl Try.ntmps11 rfl (M := N) rfl (Z4 (Z2 (Z0 (Z5 rfl) rfl (Z6 ?_))))
 (refine Z1 ?_; refine Z4 ?_)
 refine Z2 (Z0 (Z3 rfl) rfl (Z0 (Z3 rfl) rfl (Z0 (RV.len rfl rfl) rfl (Z0 (RV.add rfl rfl (by omega)) rfl (Z0 (RV.cut_hi (x.length + 1) rfl rfl (by omega) rfl rfl (by omega)) rfl (Z0 (Z5 rfl) rfl (Z6 ?_)))))))
 (refine Z1 ?_; refine Z4 ?_; refine Z4 ?_)
 refine Z2 (Z0 (Z3 rfl) rfl (Z0 (Z3 rfl) rfl (Z12 Try.call24 rfl (waybilllaw17_sameLogs_does w0 Φ N hΦ A0 c0 cs x A1 c1 cs1 x true v0 rl va1 ha1 hsame) rfl rfl ?_)))
 rintro _ G1 rfl
 refine Z20 (M' := N) (fun w m => m.appR) (Z0 (RV.not rfl) rfl (Z0 (Z3 rfl) rfl (Z24 rfl (Z0 (Z3 rfl) rfl (Z24 rfl (Z0 (Z3 rfl) rfl (Z24 rfl ?_)))))))
 refine Z0 (RV.len rfl rfl) rfl (Z24 rfl (Z0 (Z105 (x.length) rfl rfl rfl rfl rfl hs0 (by omega)) rfl (Z24 rfl (Z0 (Z31 rfl rfl rfl rfl) rfl (Z24 rfl ?_)))))
 refine Z0 (Z110 (vs := u8s mk20.toList) rfl rfl rfl rfl (fun w m => vb.load_part (hΦ w m) (cs := LgMk.C) (fun j u hj => by rw [List.getElem?_append_right (by show cs.length ≤ x.length * 22 + j; omega)]; rw [show x.length * i27.sz + j - cs.length = j by show x.length * 22 + j - cs.length = j; omega]; exact hj) (Z121 LgMk)) ((Z101 _).trans Zv)) rfl ?_
 refine Z24 rfl (Z0 (Z144 (l := List.replicate 20 (.int .u8 0)) (cs := u8s mk20.toList) rfl rfl rfl (by kernel_rfl) rfl rfl rfl) rfl (Z24 rfl (Z0 (RV.neA8_f rfl rfl rfl rfl rfl rfl (Zv) rfl) rfl (Z0 (Z108 rfl rfl rfl) rfl (Z6 (Z1 (CW.cond_f rfl ?_)))))))
 (refine CW.skip ?_; refine Z1 ?_; refine Z4 ?_; refine Z4 ?_)
 refine Z2 (Z0 (Z5 rfl) rfl (Z6 ?_))
 (refine Z1 ?_; refine CW.block ?_)
 refine Z114 (fun k L' M' => ∃ (i : Nat), k = x.length - i ∧ i ≤ x.length ∧ L' = [(0, .slice A0 x.length c0), (1, .slice A1 x.length c1), (6, .int .i64 (i : Int))] ∧
  M' = N) (k0 := x.length) ⟨0, rfl, by omega, rfl, rfl⟩ ⟨rfl, rfl, rfl, trivial⟩ (fun w m => m) ?_
 rintro k L' M' ⟨i, rfl, hi, rfl, hM⟩
 rw [hM]
 clear hM M'
 (refine Z4 ?_; refine Z4 ?_)
 refine Z2 (Z0 (Z3 rfl) rfl (Z0 (Z3 rfl) rfl (Z0 (RV.len rfl rfl) rfl (Z0 (RV.lss rfl rfl) rfl (Z6 (Z1 ?_))))))
 refine Z138 rfl (fun hlt2 => ?_) (fun hlt2 => ?_)
 ·have h1 : i < x.length := by omega
  have hx : x[i]? = some x[i] := List.getElem?_eq_getElem h1
  obtain ⟨ci, hci, hcc⟩ := ha1.get LogRd.len hx
  obtain ⟨At, ct, cst, Ad, cd, rfl, vt, ht, vd⟩ := LogRd.opn hci
  obtain ⟨cj, ⟨B1, B2, hcj, w1, w2⟩, hcd⟩ := r0.get LmRd.len hx
  subst hcj
  have hs1 := va1.isSome (by decide) h1
  have hst := still17_eq (x[i]).data
  have hmw := w1.mx
  have hsw := w1.isSome (by decide) (i := (x[i]).topics.length) (by omega)
  generalize hlx : x[i] = lx at *
  have hl32 : (hs32 lx.topics).length = lx.topics.length * 32 := Z126 _
  (refine CW.skip ?_; refine Z1 ?_; refine Z4 ?_; refine CW.block ?_; refine Z4 ?_)
  refine Z2 (Z0 (Z3 rfl) rfl (Z0 (Z3 rfl) rfl (Z0 (Z105 (i) rfl rfl rfl rfl rfl hs1 (by omega)) rfl (Z0 (Z31 rfl rfl rfl rfl) rfl (Z0 (Z21 rfl rfl rfl (fun w m => va1.load_fld (hΦ w m) hcc (Z106 _))) rfl (Z0 (RV.len rfl rfl) rfl (Z0 (Z5 rfl) rfl ?_)))))))
  refine Z6 ?_
  (refine Z1 ?_; refine Z4 ?_)
  refine Z2 (Z0 (Z3 rfl) rfl (Z0 (Z3 rfl) rfl (Z0 (Z105 (i) rfl rfl rfl rfl rfl hs0 (by omega)) rfl (Z0 (Z31 rfl rfl rfl rfl) rfl (Z0 (Z21 rfl rfl rfl (fun w m => v0.load_fld (hΦ w m) hcd (Z106 _))) rfl (Z0 (Z3 rfl) rfl (Z0 (RV.add rfl rfl (by omega)) rfl ?_)))))))
  refine Z0 (RV.cut_hi (lx.topics.length + 1) rfl rfl (by omega) rfl rfl (by omega)) rfl (Z0 (Z5 rfl) rfl (Z6 ?_))
  (refine Z1 ?_; refine Z4 ?_)
  refine CW.drawsX N [] (fun w m => m) mixed (by kernel_rfl) (Z10 0 rfl (by kernel_rfl) rfl (Z3 rfl) rfl (Z10 1 rfl (by kernel_rfl) rfl (Z3 rfl) rfl (Z10 2 rfl (by kernel_rfl) rfl (Z105 (lx.topics.length) rfl rfl rfl rfl rfl hsw (by omega)) rfl ?_)))
  refine Z10 3 rfl (by kernel_rfl) rfl (Z110 (vs := u8s mk32.toList) rfl rfl rfl rfl (fun w m => w1.load (hΦ w m) (fun j u hj => by rw [List.getElem?_append_right (by show _ ≤ lx.topics.length * 32 + j; omega)]; rw [show lx.topics.length * i51.sz + j - (hs32 lx.topics).length = j by show lx.topics.length * 32 + j - _ = j; omega]; exact hj)) ((Z101 _).trans Zv)) rfl ?_
  refine Z10 4 rfl (by kernel_rfl) rfl (Z144 (l := List.replicate 32 (.int .u8 0)) (cs := u8s mk32.toList) rfl rfl rfl (by kernel_rfl) rfl rfl rfl) rfl (Z10 5 rfl (by kernel_rfl) rfl (RV.neA8_f rfl rfl rfl rfl rfl rfl (Zv) rfl) rfl (Z10 6 rfl (by kernel_rfl) rfl (Z3 rfl) rfl (Z10 7 rfl (by kernel_rfl) rfl (Z3 rfl) rfl (Z10 8 rfl (by kernel_rfl) rfl (Z3 rfl) rfl (Z10 9 rfl (by kernel_rfl) rfl (Z105 (i) rfl rfl rfl rfl rfl hs0 (by omega)) rfl (Z10 10 rfl (by kernel_rfl) rfl (Z31 rfl rfl rfl rfl) rfl (Z10 11 rfl (by kernel_rfl) rfl (Z21 rfl rfl rfl (fun w m => v0.load_fld (hΦ w m) hcd (Z124 _))) rfl ?_)))))))
  refine Z10 12 rfl (by kernel_rfl) rfl (Z3 rfl) rfl (Z10 13 rfl (by kernel_rfl) rfl (Z3 rfl) rfl (Z10 14 rfl (by kernel_rfl) rfl (Z105 (i) rfl rfl rfl rfl rfl hs1 (by omega)) rfl (Z10 15 rfl (by kernel_rfl) rfl (Z31 rfl rfl rfl rfl) rfl (Z10 16 rfl (by kernel_rfl) rfl (Z21 rfl rfl rfl (fun w m => va1.load_fld (hΦ w m) hcc (Z124 _))) rfl ?_))))
  refine Z11 17 rfl (by kernel_rfl) rfl Try.call25 rfl (fun N' hN' => waybilllaw17_still_does w0 Φ N' (fun w m => hΦ w (hN' w m)) B2 (lx.data.length + 70) lx.data Ad cd lx.data true (by rw [List.length_append, List.length_replicate]; exact w2) vd hst) rfl ?_
  rintro _ G2 rfl
  refine Z19 (M' := N) (fun w m => m.appR) (fun w m => m) (Z10 18 rfl (by kernel_rfl) rfl (RV.not rfl) rfl (Z10 19 rfl (by kernel_rfl) rfl (Z108 rfl rfl rfl) rfl (XW.nil (by kernel_rfl) (Z1 (CW.cond_f rfl ?_)))))
  (refine CW.skip ?_; refine Z27 ?_; refine Z1 ?_)
  refine Z2 (Z0 (Z3 rfl) rfl (Z0 (RV.add rfl rfl (by omega)) rfl (Z0 (Z5 rfl) rfl (Z6 ?_))))
  refine Z109 (k' := x.length - (i + 1)) (by omega) ⟨i + 1, rfl, by omega, rfl, rfl⟩ ⟨rfl, rfl, rfl, trivial⟩ (fun w m => m)
 ·(refine CW.exit ?_; refine Z9 ?_; refine Z9 ?_; refine Z15 ?_; refine Z1 ?_; refine Z4 ?_)
  refine Z2 (Z0 (Z5 rfl) rfl (Z6 ?_))
  (refine Z1 ?_; refine CW.ret ?_)
  refine Z102 (rs := [.tmp 4]) [.bool true] [] rfl ?_ rfl rfl (fun w m => m) _ (.inl rfl)
  exact ⟨rfl, trivial⟩
theorem Z139 (w0 : World) (N : List Ent) (ob : Option Nat) (c : Nat) (r : List Value) (gs : List Lg) (mark : BitVec 8) (hok : ∀ g ∈ gs, g.Ok) (ho : OwnS ob gs.length c 22 (lgC gs) r) :
  DoesG Try.prog 33 [sl ob 0 gs.length c, U8 mark] w0 ((ob, blk (lgC gs ++ r) 27) :: lgs 51 5 gs) N (fun v G => ∃ hs : List Lg, SameG gs hs ∧ Wrt mark hs.length hs ∧ hs.map (fun g => (g.t.length, g.d.length)) = gs.map (fun g => (g.t.length, g.d.length)) ∧ v = .tuple #[] ∧ G = (ob, blk (lgC hs ++ r) 27) :: lgs 51 5 hs) := by
 have hm := ho.mx
 refine DoesG.enter Try.func33 rfl Try.ntmps33 rfl (M := (ob, blk (lgC gs ++ r) 27) :: (lgs 51 5 gs ++ N)) rfl (Z4 (Z2 (Z0 (Z5 rfl) rfl (Z6 ?_))))
 (refine Z1 ?_; refine CW.block ?_)
 refine Z114 (fun k L' M' => ∃ (i : Nat) (hs : List Lg), k = gs.length - i ∧ i ≤ gs.length ∧ SameG gs hs ∧ Wrt mark i hs ∧ hs.map (fun g => (g.t.length, g.d.length)) = gs.map (fun g => (g.t.length, g.d.length)) ∧ L' = [(0, sl ob 0 gs.length c), (1, U8 mark), (4, .int .i64 (i : Int))] ∧
  M' = (ob, blk (lgC gs ++ r) 27) :: (lgs 51 5 hs ++ N)) (k0 := gs.length) ⟨0, gs, rfl, by omega, ⟨rfl, rfl, hok⟩, (fun k g _ h => by omega), rfl, rfl, rfl⟩ ⟨rfl, rfl, rfl, trivial⟩ (fun w m => m) ?_
 rintro k L' M' ⟨i, hs, rfl, hi, hS, hW, hln, rfl, rfl⟩
 (refine Z4 ?_; refine Z4 ?_)
 refine Z2 (Z0 (Z3 rfl) rfl (Z0 (Z3 rfl) rfl (Z0 (RV.len rfl rfl) rfl (Z0 (RV.lss rfl rfl) rfl (Z6 (Z1 ?_))))))
 refine Z138 rfl (fun hlt2 => ?_) (fun hlt2 => ?_)
 ·have h1 : i < gs.length := by omega
  have h1h : i < hs.length := by rw [hS.n]; exact h1
  have hx : hs[i]? = some hs[i] := List.getElem?_eq_getElem h1h
  have gok := hS.ok _ (List.getElem_mem h1h)
  generalize hgx : hs[i] = g at hx gok
  have hot := gok.t
  have hod := gok.d
  have hmt := hot.mx
  have hmd := hod.mx
  have hsome : ob.isSome = true := ho.isSome (by decide) h1
  have hcell : ∀ j u, g.cells[j]? = some u → (lgC gs ++ r)[0 + i * 22 + j]? = some u := fun j u hu => by
   have h2 := lgC_at hx j u hu
   rw [hS.c] at h2
   rw [Nat.zero_add, List.getElem?_append_left (List.getElem?_eq_some_iff.1 h2).1]
   exact h2
  have ct : (lgC gs ++ r)[0 + i * 22 + 20]? = some (sl g.tb 0 g.t.length g.tc) := hcell 20 _ (Z106 _)
  have cd : (lgC gs ++ r)[0 + i * 22 + 21]? = some (sl g.db 0 g.d.length g.dc) := hcell 21 _ (Z124 _)
  (refine CW.skip ?_; refine Z1 ?_; refine Z4 ?_; refine CW.block ?_; refine Z4 ?_; refine Z4 ?_)
  refine CW.mem (fun w m => Mem.outG hx m) (Z2 (Z0 (Z5 rfl) rfl (Z6 ?_)))
  (refine Z1 ?_; refine CW.block ?_)
  refine Z114 (fun k L' M' => ∃ (j : Nat) (t : List (Vector (BitVec 8) 32)), k = g.t.length - j ∧ j ≤ g.t.length ∧ t.length = g.t.length ∧ (∀ (q : Nat) x, t[q]? = some x → q < j → x = wh mark i) ∧ L' = [(0, sl ob 0 gs.length c), (1, U8 mark), (4, .int .i64 (i : Int)), (5, .int .i64 (j : Int))] ∧
   M' = (g.tb, blk (hs32 t ++ g.tr) 51) :: (g.db, blk (u8s g.d ++ g.dr) 5) :: (ob, blk (lgC gs ++ r) 27) :: (lgs 51 5 (hs.eraseIdx i) ++ N)) (k0 := g.t.length) ⟨0, g.t, rfl, by omega, rfl, (fun q x _ h => by omega), rfl, rfl⟩ ⟨rfl, rfl, rfl, rfl, trivial⟩ (fun w m => m) ?_
  rintro k L' M' ⟨j, t, rfl, hj, htl, htw, rfl, rfl⟩
  (refine Z4 ?_; refine Z4 ?_)
  refine Z2 (Z0 (Z3 rfl) rfl (Z0 (Z3 rfl) rfl (Z0 (Z3 rfl) rfl (Z0 (Z128 (i) rfl rfl rfl rfl rfl hsome (by omega)) rfl (Z0 (Z30 rfl rfl rfl rfl) rfl (Z0 (Z29 rfl (List.Mem.tail _ (List.Mem.tail _ Zh)) hsome rfl rfl ct) rfl (Z0 (RV.len rfl rfl) rfl ?_)))))))
  refine Z0 (RV.lss rfl rfl) rfl (Z6 (Z1 ?_))
  refine Z138 rfl (fun hjt => ?_) (fun hjt => ?_)
  ·have h2 : j < g.t.length := by omega
   have h3 : j < t.length := by omega
   have hts : g.tb.isSome = true := hot.isSome (by decide) h2
   (refine CW.skip ?_; refine Z1 ?_; refine Z4 ?_; refine CW.block ?_)
   refine Z2 (Z0 (Z3 rfl) rfl (Z0 (Z3 rfl) rfl (Z0 (Z128 (i) rfl rfl rfl rfl rfl hsome (by omega)) rfl (Z0 (Z30 rfl rfl rfl rfl) rfl (Z0 (Z29 rfl (List.Mem.tail _ (List.Mem.tail _ Zh)) hsome rfl rfl ct) rfl (Z0 (Z3 rfl) rfl (Z0 (Z3 rfl) rfl ?_)))))))
   refine Z0 (Z3 rfl) rfl ?_
   refine Z0 (Z137 rfl rfl rfl) rfl ?_; refine Z7 (U8 (BitVec.ofNat 8 i)) (congrArg U8 (BitVec.ofInt_natCast ..)) ?_
   refine Z0 (Z3 rfl) rfl ?_
   refine Z0 (RV.quo rfl rfl (by omega) (by omega) (by omega)) rfl ?_; refine Z7 (.int .i64 ((i / 256 : Nat) : Int)) rfl ?_
   refine Z0 (Z137 rfl rfl rfl) rfl ?_; refine Z7 (U8 (BitVec.ofNat 8 (i / 256))) (congrArg U8 (BitVec.ofInt_natCast ..)) ?_
   refine Z0 (Z144 (l := (u8s (Vector.replicate 32 0#8).toList)) (cs := u8s (wh mark i).toList) rfl rfl rfl (by rw [Vector.toList_replicate, ← Z135]; rfl) rfl rfl (by simp only [wh, setL, List.foldl, ← vset, Vector.toList_replicate, ← u8s_set'] <;> rfl)) rfl ?_
   refine Z0 (Z128 (j) rfl rfl rfl rfl rfl hts (by omega)) rfl ?_
   refine Z28 (SV.storeAs rfl hts rfl (Z125 _) rfl ((Z101 _).trans Zv) (by show 0 + j * 32 + 32 ≤ _; rw [List.length_append, Z126]; omega)) ?_; refine OW.cells (hs32 (t.set j (wh mark i)) ++ g.tr) (hs32_set h3 _ _) ?_
   refine Z6 ?_
   (refine Z27 ?_; refine Z1 ?_)
   refine Z2 (Z0 (Z3 rfl) rfl (Z0 (RV.add rfl rfl (by omega)) rfl (Z0 (Z5 rfl) rfl (Z6 ?_))))
   refine Z109 (k' := g.t.length - (j + 1)) (by omega) ⟨j + 1, t.set j (wh mark i), rfl, by omega, by rw [List.length_set]; exact htl, ?_, rfl, rfl⟩ ⟨rfl, rfl, rfl, rfl, trivial⟩ (fun w m => m)
   intro q x hq hqj
   rcases set_at hq with ⟨_, e⟩ | ⟨hne, hq⟩
   ·exact e
   ·exact htw q x hq (by omega)
  ·have hje : j = g.t.length := by omega
   subst hje
   refine CW.mem (M' := (g.db, blk (u8s g.d ++ g.dr) 5) :: (g.tb, blk (hs32 t ++ g.tr) 51) :: (ob, blk (lgC gs ++ r) 27) :: (lgs 51 5 (hs.eraseIdx i) ++ N)) (fun w m => m.pick [1, 0] 2 rfl rfl) ?_
   (refine CW.exit ?_; refine Z9 ?_; refine Z9 ?_; refine Z15 ?_; refine Z1 ?_; refine Z4 ?_)
   refine Z2 (Z0 (Z5 rfl) rfl (Z6 ?_))
   (refine Z1 ?_; refine CW.block ?_)
   refine Z114 (fun k L' M' => ∃ (j : Nat) (b : List (BitVec 8)), k = g.d.length - j ∧ j ≤ g.d.length ∧ b.length = g.d.length ∧ (∀ (q : Nat) x, b[q]? = some x → q < j → x = wd mark i) ∧ L' = [(0, sl ob 0 gs.length c), (1, U8 mark), (4, .int .i64 (i : Int)), (6, .int .i64 (j : Int))] ∧
    M' = (g.db, blk (u8s b ++ g.dr) 5) :: (g.tb, blk (hs32 t ++ g.tr) 51) :: (ob, blk (lgC gs ++ r) 27) :: (lgs 51 5 (hs.eraseIdx i) ++ N)) (k0 := g.d.length) ⟨0, g.d, rfl, by omega, rfl, (fun q x _ h => by omega), rfl, rfl⟩ ⟨rfl, rfl, rfl, rfl, trivial⟩ (fun w m => m) ?_
   rintro k L' M' ⟨j, b, rfl, hj, hbl, hbw, rfl, rfl⟩
   (refine Z4 ?_; refine Z4 ?_)
   refine Z2 (Z0 (Z3 rfl) rfl (Z0 (Z3 rfl) rfl (Z0 (Z3 rfl) rfl (Z0 (Z128 (i) rfl rfl rfl rfl rfl hsome (by omega)) rfl (Z0 (Z30 rfl rfl rfl rfl) rfl (Z0 (Z29 rfl (List.Mem.tail _ (List.Mem.tail _ Zh)) hsome rfl rfl cd) rfl (Z0 (RV.len rfl rfl) rfl ?_)))))))
   refine Z0 (RV.lss rfl rfl) rfl (Z6 (Z1 ?_))
   refine Z138 rfl (fun hjd => ?_) (fun hjd => ?_)
   ·have h2 : j < g.d.length := by omega
    have h3 : j < b.length := by omega
    have hds : g.db.isSome = true := hod.isSome (by decide) h2
    (refine CW.skip ?_; refine Z1 ?_; refine Z4 ?_; refine CW.block ?_)
    refine Z2 (Z0 (Z3 rfl) rfl (Z0 (Z3 rfl) rfl (Z0 (Z128 (i) rfl rfl rfl rfl rfl hsome (by omega)) rfl (Z0 (Z30 rfl rfl rfl rfl) rfl (Z0 (Z29 rfl (List.Mem.tail _ (List.Mem.tail _ Zh)) hsome rfl rfl cd) rfl (Z0 (Z3 rfl) rfl (Z0 (Z3 rfl) rfl ?_)))))))
    refine Z0 (Z3 rfl) rfl ?_
    refine Z0 (RV.rem rfl rfl (by omega) (by omega)) rfl ?_; refine Z7 (.int .i64 ((i % 8 : Nat) : Int)) rfl ?_
    refine Z0 (Z137 rfl rfl rfl) rfl ?_; refine Z7 (U8 (BitVec.ofNat 8 (i % 8))) (congrArg U8 (BitVec.ofInt_natCast ..)) ?_
    refine Z0 (RV.add8 rfl rfl rfl rfl) rfl (Z0 (RV.idx_o (j) rfl rfl rfl rfl rfl hds (by omega)) rfl ?_)
    refine Z28 (SV.store rfl hds rfl rfl rfl (by rw [List.length_append, Z101]; omega)) ?_; refine OW.cells (u8s (b.set j (wd mark i)) ++ g.dr) (by rw [Nat.zero_add, List.set_append_left _ _ (by rw [Z101]; omega)]; exact congrArg (fun l => l ++ g.dr) (u8s_set' ..)) ?_
    refine Z6 ?_
    (refine Z27 ?_; refine Z1 ?_)
    refine Z2 (Z0 (Z3 rfl) rfl (Z0 (RV.add rfl rfl (by omega)) rfl (Z0 (Z5 rfl) rfl (Z6 ?_))))
    refine Z109 (k' := g.d.length - (j + 1)) (by omega) ⟨j + 1, b.set j (wd mark i), rfl, by omega, by rw [List.length_set]; exact hbl, ?_, rfl, rfl⟩ ⟨rfl, rfl, rfl, rfl, trivial⟩ (fun w m => m)
    intro q x hq hqj
    rcases set_at hq with ⟨_, e⟩ | ⟨hne, hq⟩
    ·exact e
    ·exact hbw q x hq (by omega)
   ·have hje : j = g.d.length := by omega
    subst hje
    (refine CW.exit ?_; refine Z9 ?_; refine Z9 ?_; refine Z15 ?_; refine Z27 ?_; refine Z1 ?_)
    refine Z2 (Z0 (Z3 rfl) rfl (Z0 (RV.add rfl rfl (by omega)) rfl (Z0 (Z5 rfl) rfl (Z6 ?_))))
    generalize hgn : ({ g with t := t, d := b } : Lg) = g2
    have gcells : g2.cells = g.cells := by rw [← hgn]; unfold Lg.cells Lg.cell; dsimp only; rw [htl, hbl]
    have gok2 : g2.Ok := by
     rw [← hgn]
     refine ⟨⟨Z126 _, ?_, hot.hn, ?_⟩, ⟨?_, ?_, hod.hn, ?_⟩⟩
     ·have := hot.hr; rw [List.length_append, Z126] at this ⊢; dsimp only; rw [htl]; exact this
     ·dsimp only; omega
     ·dsimp only; rw [Z101]; omega
     ·have := hod.hr; rw [List.length_append, Z101] at this ⊢; dsimp only; rw [hbl]; exact this
     ·dsimp only; omega
    refine Z109 (k' := gs.length - (i + 1)) (by omega) ⟨i + 1, hs.set i g2, rfl, by omega, ⟨by rw [lgC_set gcells hx]; exact hS.c, by rw [List.length_set]; exact hS.n, ?_⟩, ?_, ?_, rfl, rfl⟩ ⟨rfl, rfl, rfl, trivial⟩ (fun w m => ?_)
    ·intro x hx2
     rcases List.mem_or_eq_of_mem_set hx2 with h | rfl
     ·exact hS.ok _ h
     ·exact gok2
    ·intro q x hq hqi
     rcases set_at hq with ⟨hiq, hxe⟩ | ⟨hne, hq⟩
     ·subst hiq
      subst hxe
      rw [← hgn]
      refine ⟨fun x hx => ?_, fun y hy => ?_⟩
      ·obtain ⟨z, hz⟩ := List.getElem?_of_mem hx
       exact htw z x hz (by have := (List.getElem?_eq_some_iff.1 hz).1; dsimp only at this; omega)
      ·obtain ⟨z, hz⟩ := List.getElem?_of_mem hy
       exact hbw z y hz (by have := (List.getElem?_eq_some_iff.1 hz).1; dsimp only at this; omega)
     ·exact hW q x hq (by omega)
    ·rw [List.map_set, ← hgn]
     dsimp only
     rw [htl, hbl, ← hln]
     apply List.ext_getElem?
     intro q
     rw [List.getElem?_set]
     split
     ·rename_i hiq
      subst hiq
      rw [List.length_map, if_pos h1h, List.getElem?_map, hx]; rfl
     ·rfl
    ·refine Mem.inG h1h ?_
     rw [← hgn]
     exact m.pick [1, 0, 2] 3 rfl rfl
 ·have hie : i = gs.length := by omega
  subst hie
  (refine CW.exit ?_; refine Z9 ?_; refine Z9 ?_; refine Z15 ?_)
  refine Z102 (rs := []) [] ((ob, blk (lgC hs ++ r) 27) :: lgs 51 5 hs) rfl trivial rfl ⟨hs, hS, by rw [hS.n]; exact hW, hln, rfl, rfl⟩ (fun w m => by rw [hS.c]; exact m) _ (.inr rfl)
theorem waybilllaw17_grown_does (w0 : World) (N : List Ent) (ob : Option Nat) (c : Nat) (r : List Value) (gs : List Lg) (mark : BitVec 8) (hok : ∀ g ∈ gs, g.Ok) (ho : OwnS ob gs.length c 22 (lgC gs) r) (hfit : ∀ g ∈ gs, (g.t.length + 101) * 32 ≤ 140737488355328 ∧ g.d.length + 100 ≤ 140737488355328) :
  DoesG Try.prog 34 [sl ob 0 gs.length c, U8 mark] w0 ((ob, blk (lgC gs ++ r) 27) :: lgs 51 5 gs) N (fun v G => ∃ hs : List Lg, SameG gs hs ∧ hs.map Lg.val = gs.map Lg.val ∧ v = .bool true ∧ G = (ob, blk (lgC hs ++ r) 27) :: lgs 51 5 hs) := by
 have hm := ho.mx
 refine DoesG.enter Try.func34 rfl Try.ntmps34 rfl (M := (ob, blk (lgC gs ++ r) 27) :: (lgs 51 5 gs ++ N)) rfl (Z4 (Z2 (Z0 (Z5 rfl) rfl (Z6 ?_))))
 (refine Z1 ?_; refine Z4 ?_; refine Z4 ?_)
 refine Z2 (Z0 (Z5 rfl) rfl (Z6 ?_))
 (refine Z1 ?_; refine CW.block ?_)
 refine Z114 (fun k L' M' => ∃ (i : Nat) (hs : List Lg), k = gs.length - i ∧ i ≤ gs.length ∧ SameG gs hs ∧ hs.map Lg.val = gs.map Lg.val ∧ L' = [(0, sl ob 0 gs.length c), (1, U8 mark), (5, .int .i64 (i : Int))] ∧
  M' = (ob, blk (lgC gs ++ r) 27) :: (lgs 51 5 hs ++ N)) (k0 := gs.length) ⟨0, gs, rfl, by omega, ⟨rfl, rfl, hok⟩, rfl, rfl, rfl⟩ ⟨rfl, rfl, rfl, trivial⟩ (fun w m => m) ?_
 rintro k L' M' ⟨i, hs, rfl, hi, hS, hln, rfl, rfl⟩
 (refine Z4 ?_; refine Z4 ?_)
 refine Z2 (Z0 (Z3 rfl) rfl (Z0 (Z3 rfl) rfl (Z0 (RV.len rfl rfl) rfl (Z0 (RV.lss rfl rfl) rfl (Z6 (Z1 ?_))))))
 refine Z138 rfl (fun hlt2 => ?_) (fun hlt2 => ?_)
 ·have h1 : i < gs.length := by omega
  have h1h : i < hs.length := by rw [hS.n]; exact h1
  have hx : hs[i]? = some hs[i] := List.getElem?_eq_getElem h1h
  have gok := hS.ok _ (List.getElem_mem h1h)
  have gfit : ((hs[i]).t.length + 101) * 32 ≤ 140737488355328 ∧ (hs[i]).d.length + 100 ≤ 140737488355328 := by
   have h2 : (hs.map Lg.val)[i]? = (gs.map Lg.val)[i]? := by rw [hln]
   rw [List.getElem?_map, List.getElem?_map, hx, List.getElem?_eq_getElem h1] at h2
   have h3 := Zi h2
   have h4 := hfit _ (List.getElem_mem h1)
   have h5 : (hs[i]).t = (gs[i]).t := congrArg Log.topics h3
   have h6 : (hs[i]).d = (gs[i]).d := congrArg Log.data h3
   rw [h5, h6]; exact h4
  generalize hgx : hs[i] = g at hx gok gfit
  obtain ⟨gf1, gf2⟩ := gfit
  have hot := gok.t
  have hod := gok.d
  have hmt := hot.mx
  have hmd := hod.mx
  have hsome : ob.isSome = true := ho.isSome (by decide) h1
  have hcell : ∀ j u, g.cells[j]? = some u → (lgC gs ++ r)[0 + i * 22 + j]? = some u := fun j u hu => by
   have h2 := lgC_at hx j u hu
   rw [hS.c] at h2
   rw [Nat.zero_add, List.getElem?_append_left (List.getElem?_eq_some_iff.1 h2).1]
   exact h2
  have ct : (lgC gs ++ r)[0 + i * 22 + 20]? = some (sl g.tb 0 g.t.length g.tc) := hcell 20 _ (Z106 _)
  have cd : (lgC gs ++ r)[0 + i * 22 + 21]? = some (sl g.db 0 g.d.length g.dc) := hcell 21 _ (Z124 _)
  (refine CW.skip ?_; refine Z1 ?_; refine Z4 ?_; refine CW.block ?_; refine Z4 ?_)
  refine CW.mem (fun w m => Mem.outG hx m) (Z2 (Z0 (Z3 rfl) rfl (Z0 (Z3 rfl) rfl (Z0 (Z128 (i) rfl rfl rfl rfl rfl hsome (by omega)) rfl (Z0 (Z30 rfl rfl rfl rfl) rfl (Z0 (Z29 rfl (List.Mem.tail _ (List.Mem.tail _ Zh)) hsome rfl rfl ct) rfl (Z0 (Z3 rfl) rfl ?_)))))))
  refine Z0 (RV.add8 rfl rfl rfl (lit8 _ rfl)) rfl ?_
  refine Z0 (Z144 (l := (u8s (Vector.replicate 32 0#8).toList)) (cs := u8s (gh mark 1#8).toList) rfl rfl rfl (by rw [Vector.toList_replicate, ← Z135]; rfl) rfl rfl (by simp only [gh, setL, List.foldl, ← vset, Vector.toList_replicate, ← u8s_set'] <;> rfl)) rfl ?_
  refine Z0 (Z3 rfl) rfl (Z0 (RV.add8 rfl rfl rfl (lit8 _ rfl)) rfl ?_)
  refine Z0 (Z144 (l := (u8s (Vector.replicate 32 0#8).toList)) (cs := u8s (gh mark 2#8).toList) rfl rfl rfl (by rw [Vector.toList_replicate, ← Z135]; rfl) rfl rfl (by simp only [gh, setL, List.foldl, ← vset, Vector.toList_replicate, ← u8s_set'] <;> rfl)) rfl ?_
  refine OW.ofN (NV.bsA rfl rfl (by intro x hx; simp at hx; rcases hx with rfl | rfl <;> exact (Z101 _).trans Zv) rfl rfl rfl (by decide) (by decide) rfl) rfl (fun bs => ?_)
  refine OW.rot1 ?_; refine OW.appendGw (X := []) (s := 32) (vs := u8s (gh mark 1#8).toList ++ u8s (gh mark 2#8).toList) (m := 2) (Grw.start g.tb (hs32 g.t) g.tr 51) hot rfl rfl rfl rfl rfl rfl (fun w m => m.rd0 (List.Mem.tail _ Zh) (fun e => nomatch e)) (by rfl) (by intro u hu; rcases List.mem_append.1 hu with hu | hu <;> exact Z125 _ u hu) (fun e => nomatch e) (by decide) (by decide) (by decide) (by simp only [i51]; omega) rfl rfl (g.t.length + 2) (hs32 (g.t ++ [gh mark 1#8, gh mark 2#8])) rfl (by rw [hs32_app]; rfl) (fun obt rt ct1 XT GT oT => ?_); refine Z20 (fun w m => Mem.dropX m) ?_
  refine Z0 (Z5 rfl) rfl (Z6 ?_)
  (refine Z1 ?_; refine Z4 ?_)
  refine CW.mem (M' := (g.db, blk (u8s g.d ++ g.dr) 5) :: (obt, blk (hs32 (g.t ++ [gh mark 1#8, gh mark 2#8]) ++ rt) 51) :: (XT ++ ((ob, blk (lgC gs ++ r) 27) :: (lgs 51 5 (hs.eraseIdx i) ++ N)))) (fun w m => Mem.swapX (Y := []) m) (Z2 (Z0 (Z3 rfl) rfl (Z0 (Z3 rfl) rfl (Z0 (Z128 (i) rfl rfl rfl rfl rfl hsome (by omega)) rfl (Z0 (Z30 rfl rfl rfl rfl) rfl (Z0 (Z29 rfl (List.Mem.tail _ (List.Mem.tail _ (List.mem_append_right _ Zh))) hsome rfl rfl cd) rfl (Z0 (Z3 rfl) rfl ?_)))))))
  refine Z0 (RV.add8 rfl rfl rfl (lit8 _ rfl)) rfl (OW.ofN (NV.bs1 (v := U8 (mark + 9#8)) rfl rfl rfl rfl rfl rfl) rfl (fun bs => ?_))
  refine OW.rot1 ?_; refine OW.appendGw (X := []) (s := 1) (vs := [U8 (mark + 9#8)]) (m := 1) (Grw.start g.db (u8s g.d) g.dr 5) hod rfl rfl rfl rfl rfl rfl (fun w m => m.rd0 (List.Mem.tail _ Zh) (fun e => nomatch e)) (by rfl) (by intro u hu; simp at hu; subst hu; rfl) (fun e => nomatch e) (by decide) (by decide) (by decide) (by simp only [i5]; omega) rfl rfl (g.d.length + 1) (u8s (g.d ++ [mark + 9#8])) rfl (by rw [← u8s_app]; rfl) (fun obd rd cd1 XD GD oD => ?_); refine Z20 (fun w m => Mem.dropX m) ?_
  refine Z0 (Z5 rfl) rfl (Z6 ?_)
  (refine Z1 ?_; refine Z4 ?_; refine Z4 ?_)
  refine Z2 (Z0 (Z5 rfl) rfl (Z6 ?_))
  (refine Z1 ?_; refine CW.block ?_)
  refine Z114 (fun k L' M' => ∃ (j : Nat) (et : List (Vector (BitVec 8) 32)) (ed : List (BitVec 8)) (obt obd : Option Nat) (rt rd : List Value) (ct1 cd1 : Nat) (XT XD : List Ent), k = 99 - j ∧ j ≤ 99 ∧ et.length = 2 + j ∧ ed.length = 1 + j ∧
   Grw g.tb (hs32 g.t) g.tr.length 51 obt (hs32 (g.t ++ et)) rt XT ∧ OwnS obt (g.t ++ et).length ct1 32 (hs32 (g.t ++ et)) rt ∧ Grw g.db (u8s g.d) g.dr.length 5 obd (u8s (g.d ++ ed)) rd XD ∧ OwnS obd (g.d ++ ed).length cd1 1 (u8s (g.d ++ ed)) rd ∧
   L' = [(0, sl ob 0 gs.length c), (1, U8 mark), (5, .int .i64 (i : Int)), (6, sl obt 0 (g.t ++ et).length ct1), (7, sl obd 0 (g.d ++ ed).length cd1), (8, .int .i64 (j : Int))] ∧
   M' = (obd, blk (u8s (g.d ++ ed) ++ rd) 5) :: (XD ++ ((obt, blk (hs32 (g.t ++ et) ++ rt) 51) :: (XT ++ ((ob, blk (lgC gs ++ r) 27) :: (lgs 51 5 (hs.eraseIdx i) ++ N)))))) (k0 := 99)
   ⟨0, [gh mark 1#8, gh mark 2#8], [mark + 9#8], obt, obd, rt, rd, ct1, cd1, XT, XD, rfl, by omega, rfl, rfl, GT, by rw [List.length_append]; exact oT, GD, by rw [List.length_append]; exact oD, rfl, rfl⟩ ⟨rfl, rfl, rfl, congrArg (fun k => some (sl obt 0 k ct1)) (by rw [List.length_append]; rfl), congrArg (fun k => some (sl obd 0 k cd1)) (by rw [List.length_append]; rfl), rfl, trivial⟩ (fun w m => m) ?_
  clear GT oT GD oD
  clear XT XD rt rd ct1 cd1 obt obd
  rintro k L' M' ⟨j, et, ed, obt, obd, rt, rd, ct1, cd1, XT, XD, rfl, hj, het, hed, GT, oT, GD, oD, rfl, rfl⟩
  have hlt : (g.t ++ et).length = g.t.length + 2 + j := by rw [List.length_append]; omega
  have hld : (g.d ++ ed).length = g.d.length + 1 + j := by rw [List.length_append]; omega
  have hmT := oT.mx
  have hmD := oD.mx
  (refine Z4 ?_; refine Z4 ?_)
  refine Z2 (Z0 (Z3 rfl) rfl (Z0 (RV.lss rfl rfl) rfl (Z6 (Z1 ?_))))
  refine Z138 rfl (fun hjt => ?_) (fun hjt => ?_)
  ·(refine CW.skip ?_; refine Z1 ?_; refine Z4 ?_; refine CW.block ?_; refine Z4 ?_)
   refine CW.mem (fun w m => Mem.swapX m) (Z2 (Z0 (Z3 rfl) rfl (Z0 (Z3 rfl) rfl (Z0 (RV.add8 rfl rfl rfl (lit8 _ rfl)) rfl ?_))))
   refine Z0 (Z144 (l := (u8s (Vector.replicate 32 0#8).toList)) (cs := u8s (gh mark 3#8).toList) rfl rfl rfl (by rw [Vector.toList_replicate, ← Z135]; rfl) rfl rfl (by simp only [gh, setL, List.foldl, ← vset, Vector.toList_replicate, ← u8s_set'] <;> rfl)) rfl ?_
   refine OW.ofN (NV.bsA rfl rfl (by intro x hx; simp at hx; subst hx; exact (Z101 _).trans Zv) rfl rfl rfl (by decide) (by decide) rfl) rfl (fun bs => ?_)
   refine Z20 (fun w m => Mem.moveX m) ?_; refine OW.appendGw (s := 32) (vs := u8s (gh mark 3#8).toList) (m := 1) GT oT rfl rfl rfl rfl rfl rfl (fun w m => m.rd0 (List.Mem.tail _ (List.mem_append_right _ Zh)) (fun e => nomatch e)) ((Z101 _).trans Zv) (Z125 _) (fun e => nomatch e) (by decide) (by decide) (by decide) (by simp only [i51]; omega) rfl rfl ((g.t ++ et).length + 1) (hs32 (g.t ++ (et ++ [gh mark 3#8]))) rfl (by rw [show g.t ++ (et ++ [gh mark 3#8]) = (g.t ++ et) ++ [gh mark 3#8] from (List.append_assoc ..).symm, hs32_app (g.t ++ et)]; exact congrArg (hs32 (g.t ++ et) ++ ·) (List.append_nil _).symm) (fun obt2 rt2 ct2 XT2 GT2 oT2 => ?_); refine Z20 (fun w m => Mem.dropX m) ?_
   refine Z0 (Z5 rfl) rfl (Z6 (Z1 (CW.mem (fun w m => Mem.swapX m) (Z2 (Z0 (Z3 rfl) rfl (Z0 (Z3 rfl) rfl (Z0 (RV.add8 rfl rfl rfl (lit8 _ rfl)) rfl (OW.ofN (NV.bs1 (v := U8 (mark + 9#8)) rfl rfl rfl rfl rfl rfl) rfl (fun bs2 => ?_)))))))))
   refine Z20 (fun w m => Mem.moveX m) ?_; refine OW.appendGw (s := 1) (vs := [U8 (mark + 9#8)]) (m := 1) GD oD rfl rfl rfl rfl rfl rfl (fun w m => m.rd0 (List.Mem.tail _ (List.mem_append_right _ Zh)) (fun e => nomatch e)) rfl (by intro u hu; simp at hu; subst hu; rfl) (fun e => nomatch e) (by decide) (by decide) (by decide) (by simp only [i5]; omega) rfl rfl ((g.d ++ ed).length + 1) (u8s (g.d ++ (ed ++ [mark + 9#8]))) rfl (show u8s (g.d ++ ed) ++ u8s [mark + 9#8] = _ by rw [u8s_app, List.append_assoc]) (fun obd2 rd2 cd2 XD2 GD2 oD2 => ?_); refine Z20 (fun w m => Mem.dropX m) ?_
   refine Z0 (Z5 rfl) rfl (Z6 ?_)
   (refine Z27 ?_; refine Z1 ?_)
   refine Z2 (Z0 (Z3 rfl) rfl (Z0 (RV.add rfl rfl (by omega)) rfl (Z0 (Z5 rfl) rfl (Z6 ?_))))
   have hl1 : (g.t ++ (et ++ [gh mark 3#8])).length = (g.t ++ et).length + 1 := by rw [← List.append_assoc, List.length_append, List.length_singleton]
   have hl2 : (g.d ++ (ed ++ [mark + 9#8])).length = (g.d ++ ed).length + 1 := by rw [← List.append_assoc, List.length_append, List.length_singleton]
   refine Z109 (k' := 99 - (j + 1)) (by omega) ⟨j + 1, et ++ [gh mark 3#8], ed ++ [mark + 9#8], obt2, obd2, rt2, rd2, ct2, cd2, XT2, XD2, rfl, by omega, by rw [List.length_append, List.length_singleton]; omega, by rw [List.length_append, List.length_singleton]; omega, GT2, by rw [hl1]; exact oT2, GD2, by rw [hl2]; exact oD2, rfl, rfl⟩ ⟨rfl, rfl, rfl, congrArg (fun k => some (sl obt2 0 k ct2)) hl1.symm, congrArg (fun k => some (sl obd2 0 k cd2)) hl2.symm, rfl, trivial⟩ (fun w m => m)
  ·have hje : j = 99 := by omega
   subst hje
   (refine CW.exit ?_; refine Z9 ?_; refine Z9 ?_; refine Z15 ?_; refine Z1 ?_; refine Z4 ?_)
   refine Z2 (Z0 (Z3 rfl) rfl (Z0 (RV.len rfl rfl) rfl (Z0 (Z3 rfl) rfl (Z0 (Z3 rfl) rfl (Z0 (Z128 (i) rfl rfl rfl rfl rfl hsome (by omega)) rfl (Z0 (Z30 rfl rfl rfl rfl) rfl (Z0 (Z29 rfl (List.Mem.tail _ (List.mem_append_right _ (List.Mem.tail _ (List.mem_append_right _ Zh)))) hsome rfl rfl ct) rfl ?_)))))))
   refine Z0 (RV.len rfl rfl) rfl (Z0 (RV.add rfl rfl (by omega)) rfl (Z0 (RV.neq_f rfl rfl (by omega)) rfl (Z0 (Z3 rfl) rfl ?_)))
   refine Z24 rfl ?_; refine Z0 (Z3 rfl) rfl ?_
   refine Z24 rfl ?_; refine Z0 (RV.len rfl rfl) rfl ?_
   refine Z24 rfl ?_; refine Z0 (Z3 rfl) rfl ?_
   refine Z24 rfl ?_; refine Z0 (Z3 rfl) rfl ?_
   refine Z24 rfl ?_; refine Z0 (Z128 (i) rfl rfl rfl rfl rfl hsome (by omega)) rfl ?_
   refine Z24 rfl ?_; refine Z0 (Z30 rfl rfl rfl rfl) rfl ?_
   refine Z24 rfl ?_; refine Z0 (Z29 rfl (List.Mem.tail _ (List.mem_append_right _ (List.Mem.tail _ (List.mem_append_right _ Zh)))) hsome rfl rfl cd) rfl ?_
   refine Z24 rfl ?_; refine Z0 (RV.len rfl rfl) rfl ?_
   refine Z24 rfl ?_; refine Z0 (RV.add rfl rfl (by omega)) rfl ?_
   refine Z24 rfl ?_; refine Z0 (RV.neq_f rfl rfl (by omega)) rfl ?_
   refine Z0 (Z108 rfl rfl rfl) rfl (Z6 (Z1 (CW.cond_f rfl ?_)))
   (refine CW.skip ?_; refine Z27 ?_; refine Z1 ?_)
   refine Z2 (Z0 (Z3 rfl) rfl (Z0 (RV.add rfl rfl (by omega)) rfl (Z0 (Z5 rfl) rfl (Z6 ?_))))
   obtain ⟨tr2, htr2, hT2⟩ := GT.fin
   obtain ⟨dr2, hdr2, hD2⟩ := GD.fin
   generalize hgn : ({ g with tr := tr2, dr := dr2 } : Lg) = g2
   have gcells : g2.cells = g.cells := by rw [← hgn]; rfl
   have gok2 : g2.Ok := by
    rw [← hgn]
    refine ⟨⟨hot.n, ?_, hot.hn, hot.mx⟩, ⟨hod.n, ?_, hod.hn, hod.mx⟩⟩
    ·have := hot.hr; rw [List.length_append] at this ⊢; dsimp only; omega
    ·have := hod.hr; rw [List.length_append] at this ⊢; dsimp only; omega
   refine Z109 (k' := gs.length - (i + 1)) (by omega) ⟨i + 1, hs.set i g2, rfl, by omega, ⟨by rw [lgC_set gcells hx]; exact hS.c, by rw [List.length_set]; exact hS.n, ?_⟩, ?_, rfl, rfl⟩ ⟨rfl, rfl, rfl, trivial⟩ (fun w m => ?_)
   ·intro x hx2
    rcases List.mem_or_eq_of_mem_set hx2 with h | rfl
    ·exact hS.ok _ h
    ·exact gok2
   ·rw [List.map_set, ← hgn, ← hln]
    apply List.ext_getElem?
    intro q
    rw [List.getElem?_set]
    split
    ·rename_i hiq
     subst hiq
     rw [List.length_map, if_pos h1h, List.getElem?_map, hx]; rfl
    ·rfl
   ·refine Mem.inG h1h ?_
    rw [← hgn]
    exact (hT2 _ _ _ (Mem.swapX (X := []) (hD2 _ _ _ m)))
 ·have hie : i = gs.length := by omega
  subst hie
  (refine CW.exit ?_; refine Z9 ?_; refine Z9 ?_; refine Z15 ?_; refine Z1 ?_; refine Z4 ?_)
  refine Z2 (Z0 (Z5 rfl) rfl (Z6 ?_))
  (refine Z1 ?_; refine CW.ret ?_)
  refine Z102 (rs := [.tmp 4]) [.bool true] ((ob, blk (lgC hs ++ r) 27) :: lgs 51 5 hs) rfl ?_ rfl ⟨hs, hS, hln, rfl, rfl⟩ (fun w m => by rw [hS.c]; exact m) _ (.inl rfl)
  exact ⟨rfl, trivial⟩
theorem waybilllaw17_apart_does (w0 : World) (N : List Ent) (ob1 ob2 : Option Nat) (c1 c2 : Nat) (r1 r2 : List Value) (gs1 gs2 : List Lg) (hok1 : ∀ g ∈ gs1, g.Ok) (ho1 : OwnS ob1 gs1.length c1 22 (lgC gs1) r1) (hok2 : ∀ g ∈ gs2, g.Ok) (ho2 : OwnS ob2 gs2.length c2 22 (lgC gs2) r2)
  (hf1 : ∀ g ∈ gs1, (g.t.length + 101) * 32 ≤ 140737488355328 ∧ g.d.length + 100 ≤ 140737488355328) (hf2 : ∀ g ∈ gs2, (g.t.length + 101) * 32 ≤ 140737488355328 ∧ g.d.length + 100 ≤ 140737488355328) :
  DoesG Try.prog 16 [sl ob1 0 gs1.length c1, sl ob2 0 gs2.length c2] w0 (((ob1, blk (lgC gs1 ++ r1) 27) :: lgs 51 5 gs1) ++ ((ob2, blk (lgC gs2 ++ r2) 27) :: lgs 51 5 gs2)) N (fun v G => v = .bool true ∧ G = []) := by
 refine DoesG.enter Try.func16 rfl Try.ntmps16 rfl (M := ((ob1, blk (lgC gs1 ++ r1) 27) :: lgs 51 5 gs1) ++ (((ob2, blk (lgC gs2 ++ r2) 27) :: lgs 51 5 gs2) ++ N)) (by simp only [List.append_assoc]) (Z4 (Z2 (Z0 (Z5 rfl) rfl (Z6 ?_))))
 (refine Z1 ?_; refine Z4 ?_)
 refine Z2 (Z0 (Z3 rfl) rfl ?_)
 refine Z12 Try.call33 rfl (Z139 w0 (((ob2, blk (lgC gs2 ++ r2) 27) :: lgs 51 5 gs2) ++ N) ob1 c1 r1 gs1 50#8 hok1 ho1) rfl rfl ?_; rintro _ _ ⟨hs1, hS1, hW1, hl1, rfl, rfl⟩
 refine Z6 ?_
 (refine Z1 ?_; refine Z4 ?_)
 refine CW.mem (M' := ((ob2, blk (lgC gs2 ++ r2) 27) :: lgs 51 5 gs2) ++ (((ob1, blk (lgC hs1 ++ r1) 27) :: lgs 51 5 hs1) ++ N)) (fun w m => m.perm (List.perm_append_comm_assoc ..)) (Z2 (Z0 (Z3 rfl) rfl ?_))
 refine Z12 Try.call33 rfl (Z139 w0 (((ob1, blk (lgC hs1 ++ r1) 27) :: lgs 51 5 hs1) ++ N) ob2 c2 r2 gs2 90#8 hok2 ho2) rfl rfl ?_; rintro _ _ ⟨hs2, hS2, hW2, hl2, rfl, rfl⟩
 refine Z6 ?_
 (refine Z1 ?_; refine Z4 ?_)
 have o1 := hS1.own ho1
 have o2 := hS2.own ho2
 rw [← hS1.n, ← hS2.n]
 refine CW.mem (M' := ((ob1, blk (lgC hs1 ++ r1) 27) :: lgs 51 5 hs1) ++ (((ob2, blk (lgC hs2 ++ r2) 27) :: lgs 51 5 hs2) ++ N)) (fun w m => m.perm (List.perm_append_comm_assoc ..)) (Z2 (Z0 (Z3 rfl) rfl ?_))
 refine Z12 Try.call34 rfl (waybilllaw17_grown_does w0 (((ob2, blk (lgC hs2 ++ r2) 27) :: lgs 51 5 hs2) ++ N) ob1 c1 r1 hs1 50#8 hS1.ok o1 (lens_fit hl1 hf1)) rfl rfl ?_; rintro _ _ ⟨ks1, kS1, kv1, rfl, rfl⟩
 refine Z0 (Z5 rfl) rfl (Z6 ?_)
 (refine Z1 ?_; refine Z4 ?_)
 refine CW.mem (M' := ((ob2, blk (lgC hs2 ++ r2) 27) :: lgs 51 5 hs2) ++ (((ob1, blk (lgC ks1 ++ r1) 27) :: lgs 51 5 ks1) ++ N)) (fun w m => m.perm (List.perm_append_comm_assoc ..)) (Z2 (Z0 (Z3 rfl) rfl ?_))
 refine Z12 Try.call34 rfl (waybilllaw17_grown_does w0 (((ob1, blk (lgC ks1 ++ r1) 27) :: lgs 51 5 ks1) ++ N) ob2 c2 r2 hs2 90#8 hS2.ok o2 (lens_fit hl2 hf2)) rfl rfl ?_; rintro _ _ ⟨ks2, kS2, kv2, rfl, rfl⟩
 refine Z0 (Z5 rfl) rfl (Z6 ?_)
 (refine Z1 ?_; refine Z4 ?_)
 have p1 := kS1.own o1
 have p2 := kS2.own o2
 rw [← kS1.n, ← kS2.n]
 generalize hM : (((ob2, blk (lgC ks2 ++ r2) 27) :: lgs 51 5 ks2) ++ (((ob1, blk (lgC ks1 ++ r1) 27) :: lgs 51 5 ks1) ++ N)) = M
 have v1 := p1.view (te := 27) (w0 := w0) (Ψ := fun w => Mem w0 w M) (by decide) (fun w q => by rw [← hM] at q; exact (q.appR.appL).sublist (List.singleton_sublist.2 (List.mem_cons_self ..)))
 have v2 := p2.view (te := 27) (w0 := w0) (Ψ := fun w => Mem w0 w M) (by decide) (fun w q => by rw [← hM] at q; exact (q.appL).sublist (List.singleton_sublist.2 (List.mem_cons_self ..)))
 have q1 := lgs_reps (w0 := w0) (Φ := fun w => Mem w0 w M) (tH := 51) (tB := 5) kS1.ok (fun w q => by rw [← hM] at q; exact (q.appR.appL).tail)
 have q2 := lgs_reps (w0 := w0) (Φ := fun w => Mem w0 w M) (tH := 51) (tB := 5) kS2.ok (fun w q => by rw [← hM] at q; exact (q.appL).tail)
 have s1 := hW1.stand
 have s2 := hW2.stand
 rw [← kv1] at s1
 rw [← kv2] at s2
 have e1 : ks1.length = (ks1.map Lg.val).length := (List.length_map ..).symm
 have e2 : ks2.length = (ks2.map Lg.val).length := (List.length_map ..).symm
 rw [e1] at v1 ⊢
 rw [e2] at v2 ⊢
 refine Z2 (Z0 (Z3 rfl) rfl (Z0 (Z3 rfl) rfl ?_))
 refine Z24 rfl ?_; refine Z0 (Z3 rfl) rfl ?_
 refine Z0 (Z112 rfl rfl rfl) rfl (Z0 (Z3 rfl) rfl ?_)
 refine Z24 rfl ?_; refine Z0 (Z3 rfl) rfl ?_
 refine Z24 rfl ?_; refine Z12 Try.call35 rfl (waybilllaw17_stand_does w0 (fun w => Mem w0 w M) M (fun w m => m) _ c1 (lgC ks1) (ks1.map Lg.val) 50#8 true v1 q1 s1) rfl rfl ?_; rintro _ G5 rfl; refine Z20 (M' := M) (fun w m => m.appR) ?_
 refine Z0 (Z112 rfl rfl rfl) rfl (Z0 (Z3 rfl) rfl ?_)
 refine Z24 rfl ?_; refine Z0 (Z3 rfl) rfl ?_
 refine Z24 rfl ?_; refine Z12 Try.call35 rfl (waybilllaw17_stand_does w0 (fun w => Mem w0 w M) M (fun w m => m) _ c2 (lgC ks2) (ks2.map Lg.val) 90#8 true v2 q2 s2) rfl rfl ?_; rintro _ G6 rfl; refine Z20 (M' := N) (fun w m => by rw [← hM] at m; exact m.appR.appR.appR) ?_
 refine Z0 (Z112 rfl rfl rfl) rfl (Z0 (Z5 rfl) rfl (Z6 ?_))
 (refine Z1 ?_; refine CW.ret ?_)
 refine Z102 (rs := [.tmp 4]) [.bool true] [] rfl ?_ rfl ⟨rfl, rfl⟩ (fun w m => m) _ (.inl rfl)
 exact ⟨rfl, trivial⟩
theorem waybilllaw17_spoilItem_rec (w0 : World) : ∀ (kf : Nat) (o : Ow) (N : List Ent), It.sz o.it < kf → It.wt o.it ≤ 2147483647 → o.Ok → DoesG Try.prog 10 [.agg o.cs.toArray] w0 (o.ents 30) N (fun v G => v = .tuple #[] ∧ G = []) := by
 intro kf
 induction kf with
 | zero => intro o N h; omega
 | succ kf ih =>
  rintro ⟨lO, obO, dO, rO, cO, oiO, ciO, riO, its⟩ N hsz hwt hok
  rw [Ow.Ok] at hok
  obtain ⟨hO1, hO2, hO3⟩ := hok
  rw [Ow.it, It.wt] at hwt
  rw [Ow.it, It.sz] at hsz
  rw [Ows.it_length] at hwt
  have hm1 := hO1.mx
  have hm2 := hO2.mx
  refine DoesG.enter Try.func10 rfl Try.ntmps10 rfl (M := Ow.ents 30 (Ow.mk lO obO dO rO cO oiO ciO riO its) ++ N) rfl (Z4 (Z2 (OW.boxA rfl rfl (fun b1 => (Z6 ?_)))))
  (refine Z1 ?_; refine Z4 ?_; refine Z4 ?_)
  refine Z2 (Z0 (Z5 rfl) rfl (Z6 ?_))
  (refine Z1 ?_; refine CW.block ?_)
  refine Z114 (fun k L' M' => ∃ (i : Nat) (d2 : List (BitVec 8)), k = dO.length - i ∧ i ≤ dO.length ∧ d2.length = dO.length ∧ L' = [(1, ptr (some b1) 0), (2, .int .i64 (i : Int))] ∧ M' = (obO, blk (u8s d2 ++ rO) 5) :: (some b1, blk (Ow.cs (Ow.mk lO obO dO rO cO oiO ciO riO its)) 30) :: (oiO, blk (Ows.cs its ++ riO) 30) :: (Ows.ents 30 its ++ N)) (k0 := dO.length) ⟨0, dO, rfl, by omega, rfl, rfl, rfl⟩ ⟨rfl, rfl, trivial⟩ (fun w m => by rw [Ow.ents] at m; exact m.chunk [[(some b1, blk (Ow.cs (Ow.mk lO obO dO rO cO oiO ciO riO its)) 30)], [(obO, blk (u8s dO ++ rO) 5)], [(oiO, blk (Ows.cs its ++ riO) 30)], Ows.ents 30 its, N] [1, 0, 2, 3, 4] rfl (by simp) (by simp)) ?_
  rintro k L' M' ⟨i, d2, rfl, hi, hd2, rfl, rfl⟩
  (refine Z4 ?_; refine Z4 ?_)
  refine Z2 (Z0 (Z3 rfl) rfl (Z0 (Z30 rfl rfl rfl rfl) rfl (Z0 (Z29 rfl (List.Mem.tail _ Zh) rfl rfl rfl rfl) rfl (Z0 (RV.len rfl rfl) rfl (Z0 (RV.lss rfl rfl) rfl (Z6 (Z1 ?_)))))))
  by_cases hlt : i < dO.length
  ·refine Z13 rfl (decide_eq_true (by omega)) ?_
   have hs1 := hO1.some_of (by decide) hlt
   (refine CW.skip ?_; refine Z1 ?_; refine Z4 ?_; refine CW.block ?_)
   refine Z2 (Z0 (Z30 rfl rfl rfl rfl) rfl (Z0 (Z29 rfl (List.Mem.tail _ Zh) rfl rfl rfl rfl) rfl (Z0 (Z3 rfl) rfl (Z0 (RV.idx_o i rfl rfl rfl rfl rfl hs1 (by omega)) rfl ?_))))
   refine Z28 (SV.store rfl hs1 rfl rfl rfl (by rw [List.length_append, Z101]; omega)) ?_; refine OW.cells (u8s (d2.set i 238#8) ++ rO) (by rw [Nat.zero_add]; exact u8s_set_app d2 rO (by omega) 238#8) ?_
   refine Z6 ?_
   (refine Z27 ?_; refine Z1 ?_)
   refine Z2 (Z0 (Z3 rfl) rfl (Z0 (RV.add rfl rfl (by omega)) rfl (Z0 (Z5 rfl) rfl (Z6 ?_))))
   refine Z109 (k' := dO.length - (i + 1)) (by omega) ⟨i + 1, d2.set i 238#8, rfl, by omega, by rw [List.length_set]; exact hd2, rfl, rfl⟩ ⟨rfl, rfl, trivial⟩ (fun w m => m)
  ·refine Z14 rfl (decide_eq_false (by omega)) ?_
   have hO1' : OwnS obO d2.length cO 1 (u8s d2) rO := ⟨by rw [Z101]; omega, by rw [← hO1.hr, List.length_append, List.length_append, Z101, Z101, hd2], hO1.hn, by omega⟩
   (refine CW.exit ?_; refine Z9 ?_; refine Z9 ?_; refine Z15 ?_; refine Z1 ?_; refine Z4 ?_)
   refine Z2 (Z0 (Z30 rfl rfl rfl rfl) rfl ?_)
   refine Z0 (Z29 rfl (List.Mem.tail _ Zh) rfl rfl rfl rfl) rfl ?_; refine Z7 (sl obO 0 d2.length cO) (by rw [hd2]) ?_
   refine OW.bsN rfl rfl rfl (by decide) (by decide) rfl rfl rfl rfl rfl (fun b18 => ?_); refine OW.rot1 ?_
   refine OW.appendOwn (s := 1) rfl rfl rfl rfl rfl rfl hO1' (fun w m => m.rdl (List.Mem.tail _ Zh) (fun e => nomatch e)) rfl (by intro u hu; simp at hu; rcases hu with rfl | rfl | rfl <;> rfl) (fun e => nomatch e) (by decide) (by decide) (by simp only [i5]; omega) rfl rfl (d2.length + 3) _ rfl rfl (fun ob3 r3 c3 o3 => ?_)
   refine Z0 (Z5 rfl) rfl (Z6 ?_)
   (refine Z1 ?_; refine Z4 ?_)
   refine Z2 (Z0 (Z5 rfl) rfl (Z6 ?_))
   (refine Z1 ?_; refine CW.block ?_)
   refine Z114 (fun k L' M' => ∃ (i : Nat) (pre : List Value), k = its.length - i ∧ i ≤ its.length ∧ pre.length = i * 3 ∧ L' = [(1, ptr (some b1) 0), (3, sl ob3 0 (d2.length + 3) c3), (4, .int .i64 (i : Int))] ∧ M' = (oiO, blk (pre ++ (Ows.cs (its.drop i) ++ riO)) 30) :: (some b1, blk (Ow.cs (Ow.mk lO obO dO rO cO oiO ciO riO its)) 30) :: (Ows.ents 30 (its.drop i) ++ N)) (k0 := its.length) ⟨0, [], rfl, by omega, rfl, rfl, rfl⟩ ⟨rfl, rfl, rfl, trivial⟩ (fun w m => m.pick [3, 2] 4 rfl rfl) ?_
   rintro k L' M' ⟨i, pre, rfl, hi, hpre, rfl, rfl⟩
   (refine Z4 ?_; refine Z4 ?_)
   refine Z2 (Z0 (Z3 rfl) rfl (Z0 (Z30 rfl rfl rfl rfl) rfl (Z0 (Z29 rfl (List.Mem.tail _ Zh) rfl rfl rfl rfl) rfl (Z0 (RV.len rfl rfl) rfl (Z0 (RV.lss rfl rfl) rfl (Z6 (Z1 ?_)))))))
   by_cases hlt2 : i < its.length
   ·refine Z13 rfl (decide_eq_true (by omega)) ?_
    have hs2 := hO2.some_of (by decide) hlt2
    have hdr : its.drop i = its[i] :: its.drop (i + 1) := List.drop_eq_getElem_cons hlt2
    have hmem : its[i] ∈ its := List.getElem_mem hlt2
    have hokx : its[i].Ok := by
     have : ∀ {l : List Ow} {x : Ow}, Ows.Ok l → x ∈ l → x.Ok := by
      intro l
      induction l with
      | nil => intro x _ h; cases h
      | cons a r ihl =>
       intro x h1 h2
       rw [Ows.Ok] at h1
       rcases List.mem_cons.1 h2 with rfl | h2
       ·exact h1.1
       ·exact ihl h1.2 h2
     exact this hO3 hmem
    have hszx : It.sz its[i].it < kf := by have := Z133 (Ows.it_mem hmem); omega
    have hwtx : It.wt its[i].it ≤ 2147483647 := by have := Its.wt_mem (Ows.it_mem hmem); omega
    generalize its[i] = x at *
    rw [hdr]
    have hcs3 := x.cs_length
    have hld : ∀ (j : Nat) (u : Value), x.cs[j]? = some u → (pre ++ (Ows.cs (x :: its.drop (i + 1)) ++ riO))[0 + i * 3 + j]? = some u := fun j u hj => by
     have hjl := (List.getElem?_eq_some_iff.1 hj).1
     rw [List.getElem?_append_right (by omega), Ows.cs, List.flatMap_cons, List.append_assoc, List.getElem?_append_left (by omega), show 0 + i * 3 + j - pre.length = j by omega]; exact hj
    refine CW.mem (M' := (oiO, blk (pre ++ (Ows.cs (x :: its.drop (i + 1)) ++ riO)) 30) :: (some b1, blk (Ow.cs (Ow.mk lO obO dO rO cO oiO ciO riO its)) 30) :: (x.ents 30 ++ (Ows.ents 30 (its.drop (i + 1)) ++ N))) (fun w m => by rw [Ows.ents, List.append_assoc] at m; exact m) ?_
    (refine CW.skip ?_; refine Z1 ?_; refine Z4 ?_; refine CW.block ?_; refine Z4 ?_)
    refine Z2 (Z0 (Z30 rfl rfl rfl rfl) rfl (Z0 (Z29 rfl (List.Mem.tail _ Zh) rfl rfl rfl rfl) rfl (Z0 (Z3 rfl) rfl (Z0 (Z128 i rfl rfl rfl rfl rfl hs2 (by omega)) rfl (Z0 (RV.loadAo rfl Zh hs2 rfl rfl rfl hld hcs3) rfl ?_)))))
    refine Z20 (M' := x.ents 30 ++ ((oiO, blk (pre ++ (Ows.cs (x :: its.drop (i + 1)) ++ riO)) 30) :: (some b1, blk (Ow.cs (Ow.mk lO obO dO rO cO oiO ciO riO its)) 30) :: (Ows.ents 30 (its.drop (i + 1)) ++ N))) (fun w m => m.chunk [[(oiO, blk (pre ++ (Ows.cs (x :: its.drop (i + 1)) ++ riO)) 30)], [(some b1, blk (Ow.cs (Ow.mk lO obO dO rO cO oiO ciO riO its)) 30)], x.ents 30, Ows.ents 30 (its.drop (i + 1)), N] [2, 0, 1, 3, 4] rfl (by simp) (by simp)) ?_; refine Z12 Try.call10 rfl (ih x _ hszx hwtx hokx) rfl rfl ?_; rintro _ _ ⟨rfl, rfl⟩
    refine Z6 (Z1 (Z2 (Z0 (Z30 rfl rfl rfl rfl) rfl (Z0 (Z29 rfl (List.Mem.tail _ Zh) rfl rfl rfl rfl) rfl (Z0 (Z3 rfl) rfl (Z0 (Z3 rfl) rfl (Z0 (Z111 (l := [.bool false, .slice none 0 0, .slice none 0 0]) (cs := [.bool false, sl ob3 0 (d2.length + 3) c3, .slice none 0 0]) [(1, [sl ob3 0 (d2.length + 3) c3])] rfl rfl rfl rfl rfl rfl rfl) rfl (Z0 (Z128 i rfl rfl rfl rfl rfl hs2 (by omega)) rfl ?_))))))))
    refine Z28 (SV.storeAs rfl hs2 rfl (by intro u hu; simp at hu; rcases hu with rfl | rfl | rfl <;> rfl) rfl rfl (by simp only [List.length_append, Ows.cs, List.flatMap_cons, hcs3, hpre]; show 0 + i * 3 + 3 ≤ _; omega)) ?_; refine OW.cells ((pre ++ [.bool false, sl ob3 0 (d2.length + 3) c3, .slice none 0 0]) ++ (Ows.cs (its.drop (i + 1)) ++ riO)) (by rw [Ows.cs, List.flatMap_cons, List.append_assoc, List.append_assoc]; exact (congrArg (fun k => spl _ k _) (show 0 + i * 3 = i * 3 + 0 by omega)).trans (skip_spl hpre (here_spl hcs3.symm))) ?_
    refine Z6 ?_
    (refine Z27 ?_; refine Z1 ?_)
    refine Z2 (Z0 (Z3 rfl) rfl (Z0 (RV.add rfl rfl (by omega)) rfl (Z0 (Z5 rfl) rfl (Z6 ?_))))
    refine Z109 (k' := its.length - (i + 1)) (by omega) ⟨i + 1, _, rfl, by omega, by rw [List.length_append, hpre]; show i * 3 + 3 = _; omega, rfl, rfl⟩ ⟨rfl, rfl, rfl, trivial⟩ (fun w m => m)
   ·refine Z14 rfl (decide_eq_false (by omega)) ?_
    (refine CW.exit ?_; refine Z9 ?_; refine Z9 ?_; refine Z15 ?_)
    refine Z102 (rs := []) [] [] rfl trivial rfl ⟨rfl, rfl⟩ (fun w m => (m.drop 2).appR) _ (.inr rfl)
theorem waybilllaw17_spoilItem_does (w0 : World) (o : Ow) (N : List Ent) (hw : It.wt o.it ≤ 2147483647) (hok : o.Ok) : DoesG Try.prog 10 [.agg o.cs.toArray] w0 (o.ents 30) N (fun v G => v = .tuple #[] ∧ G = []) := waybilllaw17_spoilItem_rec w0 _ o N (Nat.lt_succ_self _) hw hok
theorem waybilllaw17_lentItem_rec (w0 : World) : ∀ (kf : Nat) (Φ : Ctx) (N : List Ent) (hΦ : ∀ w, Mem w0 w N → Φ w) (cs : List Value) (x : It), It.sz x < kf → It.wt x ≤ 2147483647 → ItRd Φ cs x → DoesG Try.prog 12 [.agg cs.toArray] w0 [] N (fun v G => ∃ B cr, LtRd (More w0 Φ B) cr x ∧ v = .agg cr.toArray ∧ G = B) := by
 intro kf
 induction kf with
 | zero => intro Φ N hΦ cs x h; omega
 | succ kf ih =>
  intro Φ N hΦ cs x hsz hwt hx
  have hcl := ItRd.len _ _ hx
  obtain ⟨A, c, B, e, cells, e53, va, vb, hr⟩ := ItRd.opn hx
  have hwt2 : x.data.length + x.items.length + 1 + Its.wt x.items ≤ 2147483647 := by cases x; simpa only [It.wt, It.data, It.items] using hwt
  have hsz2 : Its.sz x.items < kf := by cases x; simp only [It.sz, It.items] at *; omega
  have hc1 : cs[1]? = some (.slice A x.data.length c) := by rw [e53]; rfl
  have hc2 : cs[2]? = some (.slice B x.items.length e) := by rw [e53]; rfl
  have hc0 : cs[0]? = some (.bool x.list) := by rw [e53]; rfl
  refine DoesG.enter Try.func12 rfl Try.ntmps12 rfl (M := N) rfl (Z4 (Z2 (OW.boxA rfl rfl (fun b1 => (OW.alloc (l := zi0) rfl rfl rfl (fun b2 => (Z6 ?_)))))))
  (refine Z1 ?_; refine Z4 ?_)
  refine Z2 (Z0 (Z30 rfl rfl rfl rfl) rfl (Z0 (Z29 rfl (List.Mem.tail _ Zh) rfl rfl rfl hc2) rfl (Z0 (RV.len rfl rfl) rfl (Z0 (RV.add rfl rfl (by omega)) rfl (OW.makeS (zs := zi0) (x.items.length + 1) (x.items.length + 1) rfl (by omega) rfl (by omega) rfl rfl rfl (by kernel_rfl) rfl (by omega) (by simp only [i30]; omega) (by omega) rfl (fun b9 => (Z0 (Z5 rfl) rfl (Z6 ?_))))))))
  (refine Z1 ?_; refine Z4 ?_; refine Z4 ?_)
  refine Z2 (Z0 (Z5 rfl) rfl (Z6 ?_))
  (refine Z1 ?_; refine CW.block ?_)
  refine Z114 (fun k L' M' => ∃ (i : Nat) (Bx : List Ent) (cells2 : List Value), k = x.items.length - i ∧ i ≤ x.items.length ∧ Reps (LtRd (More w0 Φ Bx)) cells2 (x.items.take i) ∧ L' = [(1, ptr (some b1) 0), (2, ptr (some b2) 0), (3, sl (some b9) 0 (x.items.length + 1) (x.items.length + 1)), (4, .int .i64 (i : Int))] ∧ M' = (some b9, blk (cells2 ++ zi (x.items.length + 1 - i)) 30) :: (some b1, blk cs 30) :: (some b2, blk zi0 30) :: (Bx ++ N)) (k0 := x.items.length) ⟨0, [], [], rfl, by omega, Reps.nil, rfl, rfl⟩ ⟨rfl, rfl, rfl, rfl, trivial⟩ (fun w m => m.pick [0, 2, 1] 3 rfl rfl) ?_
  rintro k L' M' ⟨i, Bx, cells2, rfl, hi, hre, rfl, rfl⟩
  have hcl2 := hre.len LtRd.len
  rw [List.length_take, Nat.min_eq_left hi] at hcl2
  (refine Z4 ?_; refine Z4 ?_)
  refine Z2 (Z0 (Z3 rfl) rfl (Z0 (Z30 rfl rfl rfl rfl) rfl (Z0 (Z29 rfl (List.Mem.tail _ Zh) rfl rfl rfl hc2) rfl (Z0 (RV.len rfl rfl) rfl (Z0 (RV.lss rfl rfl) rfl (Z6 (Z1 ?_)))))))
  by_cases hlt : i < x.items.length
  ·refine Z13 rfl (decide_eq_true (by omega)) ?_
   have hxi : x.items[i]? = some x.items[i] := List.getElem?_eq_getElem hlt
   obtain ⟨ci, hci, hcc⟩ := hr.get ItRd.len hxi
   have hmem : x.items[i] ∈ x.items := List.getElem_mem hlt
   have hci3 := ItRd.len _ _ hci
   (refine CW.skip ?_; refine Z1 ?_; refine Z4 ?_; refine CW.block ?_)
   refine Z2 (Z0 (Z3 rfl) rfl (Z0 (Z3 rfl) rfl (Z0 (Z30 rfl rfl rfl rfl) rfl (Z0 (Z29 rfl (List.Mem.tail _ Zh) rfl rfl rfl hc2) rfl (Z0 (Z3 rfl) rfl (Z0 (Z105 i rfl rfl rfl rfl rfl (vb.isSome (by decide) hlt) (by omega)) rfl (Z0 (Z110 rfl rfl rfl rfl (fun w m => vb.load (hΦ w (m.drop 3).appR) hcc) hci3) rfl ?_)))))))
   refine Z12 Try.call12 rfl (ih Φ ((some b9, blk (cells2 ++ zi (x.items.length + 1 - i)) 30) :: (some b1, blk cs 30) :: (some b2, blk zi0 30) :: (Bx ++ N)) (fun w m => hΦ w (m.drop 3).appR) ci x.items[i] (by have := Z133 hmem; omega) (by have := Its.wt_mem hmem; omega) hci) rfl rfl ?_; rintro _ B2 ⟨_, cr, hcr, rfl, rfl⟩; have hcr3 := LtRd.len _ _ hcr; refine Z20 (M' := (some b9, blk (cells2 ++ zi (x.items.length + 1 - i)) 30) :: (some b1, blk cs 30) :: (some b2, blk zi0 30) :: ((B2 ++ Bx) ++ N)) (fun w m => m.chunk [B2, [(some b9, blk (cells2 ++ zi (x.items.length + 1 - i)) 30)], [(some b1, blk cs 30)], [(some b2, blk zi0 30)], Bx, N] [1, 2, 3, 0, 4, 5] rfl (by simp) (by simp)) ?_
   refine Z0 (Z128 i rfl rfl rfl rfl rfl rfl (by omega)) rfl ?_
   refine Z28 (SV.storeAs rfl rfl rfl (LtRd.one _ _ hcr) rfl hcr3 (by rw [List.length_append, zi_length, hcl2]; show 0 + i * 3 + 3 ≤ _; omega)) ?_; refine OW.cells ((cells2 ++ cr) ++ zi (x.items.length + 1 - (i + 1))) (by rw [show x.items.length + 1 - i = (x.items.length + 1 - (i + 1)) + 1 by omega, show 0 + i * i30.sz = i * 3 from Nat.zero_add _]; exact zi_set hcl2 hcr3) ?_
   refine Z6 ?_
   (refine Z27 ?_; refine Z1 ?_)
   refine Z2 (Z0 (Z3 rfl) rfl (Z0 (RV.add rfl rfl (by omega)) rfl (Z0 (Z5 rfl) rfl (Z6 ?_))))
   refine Z109 (k' := x.items.length - (i + 1)) (by omega) ⟨i + 1, B2 ++ Bx, cells2 ++ cr, rfl, by omega, ?_, rfl, rfl⟩ ⟨rfl, rfl, rfl, rfl, trivial⟩ (fun w m => m)
   rw [List.take_add_one, hxi]
   exact (hre.mono (LtRd.mono (fun w q => ⟨q.1, q.2.appR⟩))).snoc (LtRd.mono (fun w q => ⟨q.1, q.2.appL⟩) _ _ hcr)
  ·refine Z14 rfl (decide_eq_false (by omega)) ?_
   obtain rfl : i = x.items.length := by omega
   rw [List.take_length] at hre
   rw [show x.items.length + 1 - x.items.length = 0 + 1 by omega]
   (refine CW.exit ?_; refine Z9 ?_; refine Z9 ?_; refine Z15 ?_; refine Z1 ?_; refine Z4 ?_)
   refine Z2 (Z0 (Z3 rfl) rfl (Z0 (Z30 rfl rfl rfl rfl) rfl (Z0 (Z29 rfl (List.Mem.tail _ Zh) rfl rfl rfl hc2) rfl (Z0 (RV.len rfl rfl) rfl ?_))))
   refine OW.bs1 rfl rfl rfl rfl rfl rfl rfl (fun b30 => ?_); refine OW.rot1 ?_
   refine Z0 (Z111 (l := [.bool false, .slice none 0 0, .slice none 0 0]) (cs := [.bool false, sl (some b30) 0 1 1, .slice none 0 0]) [(1, [sl (some b30) 0 1 1])] rfl rfl rfl rfl rfl rfl rfl) rfl (Z0 (Z128 x.items.length rfl rfl rfl rfl rfl rfl (by omega)) rfl ?_)
   refine Z28 (SV.storeAs rfl rfl rfl (by intro u hu; simp at hu; rcases hu with rfl | rfl | rfl <;> rfl) rfl rfl (by rw [List.length_append, zi_length, hcl2]; show 0 + x.items.length * 3 + 3 ≤ _; omega)) ?_; refine OW.cells ((cells2 ++ [.bool false, sl (some b30) 0 1 1, .slice none 0 0]) ++ zi 0) (by rw [show 0 + x.items.length * i30.sz = x.items.length * 3 from Nat.zero_add _]; exact zi_set hcl2 rfl) ?_
   refine Z6 ?_
   (refine Z1 ?_; refine Z4 ?_)
   have hvm := va.mx
   refine CW.mem (M' := (some b9, blk (cells2 ++ [.bool false, sl (some b30) 0 1 1, .slice none 0 0]) 30) :: (some b30, blk [.int .u8 195] 5) :: (some b1, blk cs 30) :: (some b2, blk zi0 30) :: (Bx ++ N)) (fun w m => by rw [show zi 0 = [] from rfl, List.append_nil] at m; exact m) ?_
   refine Z134 11 mixed (by kernel_rfl) rfl (Z18 0 rfl (by kernel_rfl) rfl (Z30 rfl rfl rfl rfl) rfl (Z18 1 rfl (by kernel_rfl) rfl (Z29 rfl (List.Mem.tail _ (List.Mem.tail _ Zh)) rfl rfl rfl hc0) rfl (Z18 2 rfl (by kernel_rfl) rfl (Z30 rfl rfl rfl rfl) rfl (Z18 3 rfl (by kernel_rfl) rfl (Z29 rfl (List.Mem.tail _ (List.Mem.tail _ Zh)) rfl rfl rfl hc1) rfl (Z18 5 rfl (by kernel_rfl) rfl (Z3 rfl) rfl (Z18 6 rfl (by kernel_rfl) rfl (Z30 rfl rfl rfl rfl) rfl (Z18 7 rfl (by kernel_rfl) rfl (Z29 rfl (List.Mem.tail _ (List.Mem.tail _ Zh)) rfl rfl rfl hc2) rfl ?_)))))))
   refine Z18 8 rfl (by kernel_rfl) rfl (RV.len rfl rfl) rfl (Z18 9 rfl (by kernel_rfl) rfl (RV.cut_o x.items.length rfl rfl rfl rfl rfl (by omega)) rfl (Z25 4 rfl (by kernel_rfl) rfl Try.call18 rfl (fun N' hN' => waybilllaw17_lent_raw w0 Φ N' (fun w m => hΦ w ((hN' w m).drop 4).appR) A c x.data x.data va (if_pos (by omega))) rfl ?_))
   rintro _ _ ⟨bL, oL, _, rfl, rfl⟩
   refine Z18 10 rfl (by kernel_rfl) rfl (Z111 (l := [.bool false, .slice none 0 0, .slice none 0 0]) (cs := [.bool x.list, sl (some bL) 0 x.data.length (x.data.length + 70), sl (some b9) 0 x.items.length (x.items.length + 1)]) [(0, [.bool x.list]), (1, [sl (some bL) 0 x.data.length (x.data.length + 70)]), (2, [sl (some b9) 0 x.items.length (x.items.length + 1)])] rfl rfl rfl rfl rfl rfl rfl) rfl (UW.nil (by kernel_rfl) (Z20 (M' := (some b2, blk zi0 30) :: (some bL, blk (u8s x.data ++ (u8s (List.replicate 70 195#8) ++ [])) 5) :: (some b9, blk (cells2 ++ [.bool false, sl (some b30) 0 1 1, .slice none 0 0]) 30) :: (some b30, blk [.int .u8 195] 5) :: (Bx ++ N)) (fun w m => m.pick [4, 0, 1, 2] 5 rfl rfl) ?_))
   refine Z28 (Z104 rfl rfl rfl (by intro u hu; simp at hu; rcases hu with rfl | rfl | rfl <;> rfl) rfl rfl rfl) ?_
   refine Z6 ?_
   (refine Z1 ?_; refine CW.ret ?_)
   refine Z102 (rs := [.cell 2 30]) [.agg #[.bool x.list, sl (some bL) 0 x.data.length (x.data.length + 70), sl (some b9) 0 x.items.length (x.items.length + 1)]] ((some b2, blk [.bool x.list, sl (some bL) 0 x.data.length (x.data.length + 70), sl (some b9) 0 x.items.length (x.items.length + 1)] 30) :: (some bL, blk (u8s x.data ++ (u8s (List.replicate 70 195#8) ++ [])) 5) :: (some b9, blk (cells2 ++ [.bool false, sl (some b30) 0 1 1, .slice none 0 0]) 30) :: (some b30, blk [.int .u8 195] 5) :: Bx) rfl ?_ rfl ?_ (fun w m => m) _ (.inl rfl)
   ·exact ⟨⟨_, _, _, _, rfl, Zh, rfl, rfl, rfl, rfl⟩, trivial⟩
   ·refine ⟨_, _, ?_, rfl, rfl⟩
    have h3 := It.eta x
    have hd : x.data.length + 70 ≤ 140737488355328 := by omega
    generalize x.list = l, x.data = d, x.items = its at *
    subst h3
    refine LtRd.mk (A := some ⟨bL, 0, none⟩) (B := some ⟨b9, 0, none⟩) (cells := cells2) (mk := [.bool false, sl (some b30) 0 1 1, .slice none 0 0]) ⟨fun w q => ?_, fun _ => rfl, by rw [Z101, Nat.mul_one], by simp [mk70], by simp [mk70]; omega⟩ ⟨fun w q => q.2.tail.tail.rdl (List.mem_cons_self ..) (fun e => nomatch e), fun _ => rfl, by rw [List.length_append, hcl2]; show _ + 3 = _; omega, by omega, by omega⟩ (hre.mono (LtRd.mono (fun w q => ⟨q.1, q.2.tail.tail.tail.tail⟩))) ?_
    ·have q2 := q.2.tail
     rw [List.append_nil, u8s_app] at q2
     exact q2.rdl (List.mem_cons_self ..) (fun e => nomatch e)
    ·exact ItRd.mk (d := [195#8]) (its := []) ⟨fun w q => q.2.tail.tail.tail.rdl (l := u8s [195#8]) (List.mem_cons_self ..) (fun e => nomatch e), fun _ => rfl, rfl, by simp, by simp⟩ View.nil Reps.nil
theorem waybilllaw17_stillItem_rec (w0 : World) (hstill : ∀ d : List (BitVec 8), d.length ≤ 2147483647 → waybilllaw17_still d d = some true) : ∀ (kf : Nat) (Φ : Ctx) (N : List Ent) (hΦ : ∀ w, Mem w0 w N → Φ w) (cs1 cs2 : List Value) (x : It), It.sz x < kf → It.wt x ≤ 2147483647 → LtRd Φ cs1 x → ItRd Φ cs2 x → DoesG Try.prog 17 [.agg cs1.toArray, .agg cs2.toArray] w0 [] N (fun v G => v = .bool true) := by
 intro kf
 induction kf with
 | zero => intro Φ N hΦ cs1 cs2 x h; omega
 | succ kf ih =>
  intro Φ N hΦ cs1 cs2 x hsz hwt h1 h2
  have hwt2 : x.data.length + x.items.length + 1 + Its.wt x.items ≤ 2147483647 := by cases x; simpa only [It.wt, It.data, It.items] using hwt
  have hsz2 : Its.sz x.items < kf := by cases x; simp only [It.sz, It.items] at *; omega
  obtain ⟨A1, c1, B1, e1, cl1, mk, r1, va1, vb1, hr1, hmk⟩ := LtRd.opn h1
  obtain ⟨A2, c2, B2, e2, cl2, r2, va2, vb2, hr2⟩ := ItRd.opn h2
  have k10 : cs1[0]? = some (.bool x.list) := by rw [r1]; rfl
  have k11 : cs1[1]? = some (.slice A1 x.data.length c1) := by rw [r1]; rfl
  have k12 : cs1[2]? = some (.slice B1 x.items.length e1) := by rw [r1]; rfl
  have k20 : cs2[0]? = some (.bool x.list) := by rw [r2]; rfl
  have k21 : cs2[1]? = some (.slice A2 x.data.length c2) := by rw [r2]; rfl
  have k22 : cs2[2]? = some (.slice B2 x.items.length e2) := by rw [r2]; rfl
  have hle1 := vb1.le
  have hst := hstill x.data (by omega)
  refine DoesG.enter Try.func17 rfl Try.ntmps17 rfl (M := N) rfl (Z4 (Z2 (OW.boxA rfl rfl (fun b2 => (OW.boxA rfl rfl (fun b3 => (Z0 (Z5 rfl) rfl (Z6 ?_))))))))
  (refine Z1 ?_; refine Z4 ?_; refine Z4 ?_)
  refine Z2 (Z0 (Z30 rfl rfl rfl rfl) rfl (Z0 (Z29 rfl (List.Mem.tail _ Zh) rfl rfl rfl k10) rfl (Z0 (Z30 rfl rfl rfl rfl) rfl (Z0 (Z29 rfl Zh rfl rfl rfl k20) rfl (Z0 (RV.neqB_f rfl rfl rfl rfl) rfl (Z0 (Z3 rfl) rfl ?_))))))
  refine Z24 rfl ?_; refine Z0 (Z30 rfl rfl rfl rfl) rfl ?_
  refine Z24 rfl ?_; refine Z0 (Z29 rfl (List.Mem.tail _ Zh) rfl rfl rfl k12) rfl ?_
  refine Z24 rfl ?_; refine Z0 (RV.len rfl rfl) rfl ?_
  refine Z24 rfl ?_; refine Z0 (Z30 rfl rfl rfl rfl) rfl ?_
  refine Z24 rfl ?_; refine Z0 (Z29 rfl Zh rfl rfl rfl k22) rfl ?_
  refine Z24 rfl ?_; refine Z0 (RV.len rfl rfl) rfl ?_
  refine Z24 rfl ?_; refine Z0 (RV.neq_f rfl rfl rfl) rfl ?_
  refine Z0 (Z108 rfl rfl rfl) rfl (Z0 (Z3 rfl) rfl ?_)
  refine Z24 rfl ?_; refine Z0 (Z30 rfl rfl rfl rfl) rfl ?_
  refine Z24 rfl ?_; refine Z0 (Z29 rfl (List.Mem.tail _ Zh) rfl rfl rfl k11) rfl ?_
  refine Z24 rfl ?_; refine Z0 (Z30 rfl rfl rfl rfl) rfl ?_
  refine Z24 rfl ?_; refine Z0 (Z29 rfl Zh rfl rfl rfl k21) rfl ?_
  refine Z24 rfl ?_; refine Z12 Try.call25 rfl (waybilllaw17_still_does w0 Φ ((some b3, blk cs2 30) :: (some b2, blk cs1 30) :: N) (fun w m => hΦ w (m.drop 2)) A1 c1 x.data A2 c2 x.data true va1 va2 hst) rfl rfl ?_; rintro _ G1 rfl; refine Z20 (M' := (some b3, blk cs2 30) :: (some b2, blk cs1 30) :: N) (fun w m => m.appR) ?_
  refine Z24 rfl ?_; refine Z0 (RV.not rfl) rfl ?_
  refine Z0 (Z108 rfl rfl rfl) rfl (Z6 (Z1 (Z14 rfl rfl ?_)))
  (refine CW.skip ?_; refine Z1 ?_; refine Z4 ?_)
  refine Z2 (Z0 (Z30 rfl rfl rfl rfl) rfl (Z0 (Z29 rfl (List.Mem.tail _ Zh) rfl rfl rfl k12) rfl (Z0 (Z30 rfl rfl rfl rfl) rfl (Z0 (Z29 rfl Zh rfl rfl rfl k22) rfl (Z0 (RV.len rfl rfl) rfl (Z0 (RV.add rfl rfl (by omega)) rfl (Z0 (RV.cut_hi (x.items.length + 1) rfl rfl (by omega) rfl rfl (by omega)) rfl ?_)))))))
  refine Z0 (Z5 rfl) rfl (Z6 ?_)
  (refine Z1 ?_; refine Z4 ?_; refine Z4 ?_)
  refine Z2 (Z0 (Z5 rfl) rfl (Z6 ?_))
  (refine Z1 ?_; refine CW.block ?_)
  refine Z114 (fun k L' M' => ∃ (i : Nat), k = x.items.length - i ∧ i ≤ x.items.length ∧ L' = [(3, ptr (some b3) 0), (5, .slice B1 (x.items.length + 1) e1), (6, .int .i64 (i : Int))] ∧ M' = (some b3, blk cs2 30) :: N) (k0 := x.items.length) ⟨0, rfl, by omega, rfl, rfl⟩ ⟨rfl, rfl, rfl, trivial⟩ (fun w m => m.pick [0] 2 rfl rfl) ?_
  rintro k L' M' ⟨i, rfl, hi, rfl, rfl⟩
  (refine Z4 ?_; refine Z4 ?_)
  refine Z2 (Z0 (Z3 rfl) rfl (Z0 (Z30 rfl rfl rfl rfl) rfl (Z0 (Z29 rfl Zh rfl rfl rfl k22) rfl (Z0 (RV.len rfl rfl) rfl (Z0 (RV.lss rfl rfl) rfl (Z6 (Z1 ?_)))))))
  by_cases hlt : i < x.items.length
  ·refine Z13 rfl (decide_eq_true (by omega)) ?_
   have hxi : x.items[i]? = some x.items[i] := List.getElem?_eq_getElem hlt
   have hmem : x.items[i] ∈ x.items := List.getElem_mem hlt
   obtain ⟨ca, hca, hcca⟩ := hr1.get LtRd.len hxi
   obtain ⟨cb, hcb, hccb⟩ := hr2.get ItRd.len hxi
   have hcca2 : ∀ (j : Nat) (u : Value), ca[j]? = some u → (cl1 ++ mk)[i * 3 + j]? = some u := fun j u hj => by
    have h := hcca j u hj
    rw [List.getElem?_append_left (List.getElem?_eq_some_iff.1 h).1]; exact h
   (refine CW.skip ?_; refine Z1 ?_; refine Z4 ?_; refine CW.block ?_; refine Z4 ?_)
   refine Z134 11 mixed (by kernel_rfl) rfl (Z18 0 rfl (by kernel_rfl) rfl (Z3 rfl) rfl (Z18 1 rfl (by kernel_rfl) rfl (Z3 rfl) rfl (Z18 2 rfl (by kernel_rfl) rfl (Z105 i rfl rfl rfl rfl rfl (vb1.isSome (by decide) (i := i) (by omega)) (by omega)) rfl (Z18 3 rfl (by kernel_rfl) rfl (Z110 rfl rfl rfl rfl (fun w m => vb1.load (hΦ w m.tail) hcca2) (LtRd.len _ _ hca)) rfl (Z18 4 rfl (by kernel_rfl) rfl (Z30 rfl rfl rfl rfl) rfl (Z18 5 rfl (by kernel_rfl) rfl (Z29 rfl Zh rfl rfl rfl k22) rfl (Z18 6 rfl (by kernel_rfl) rfl (Z3 rfl) rfl ?_)))))))
   refine Z18 7 rfl (by kernel_rfl) rfl (Z105 i rfl rfl rfl rfl rfl (vb2.isSome (by decide) hlt) (by omega)) rfl (Z18 8 rfl (by kernel_rfl) rfl (Z110 rfl rfl rfl rfl (fun w m => vb2.load (hΦ w m.tail) hccb) (ItRd.len _ _ hcb)) rfl (Z25 9 rfl (by kernel_rfl) rfl Try.call17 rfl (fun N' hN' => ih Φ N' (fun w m => hΦ w (hN' w m).tail) ca cb x.items[i] (by have := Z133 hmem; omega) (by have := Its.wt_mem hmem; omega) hca hcb) rfl ?_))
   rintro _ G1 rfl
   refine UW.mem (M' := (some b3, blk cs2 30) :: N) (fun w m => m.appR) (Z18 10 rfl (by kernel_rfl) rfl (Z5 rfl) rfl (UW.nil (by kernel_rfl) (Z6 ?_)))
   (refine Z1 ?_; refine Z4 ?_)
   refine Z2 (Z0 (Z3 rfl) rfl (Z0 (RV.not rfl) rfl (Z6 (Z1 (Z14 rfl rfl ?_)))))
   (refine CW.skip ?_; refine Z27 ?_; refine Z1 ?_)
   refine Z2 (Z0 (Z3 rfl) rfl (Z0 (RV.add rfl rfl (by omega)) rfl (Z0 (Z5 rfl) rfl (Z6 ?_))))
   refine Z109 (k' := x.items.length - (i + 1)) (by omega) ⟨i + 1, rfl, by omega, rfl, rfl⟩ ⟨rfl, rfl, rfl, trivial⟩ (fun w m => m)
  ·refine Z14 rfl (decide_eq_false (by omega)) ?_
   have hl1 := hr1.len LtRd.len
   obtain ⟨A3, c3, B3, e3, cl3, r3, va3, _, _⟩ := ItRd.opn hmk
   have hmkc : ∀ (j : Nat) (u : Value), mk[j]? = some u → (cl1 ++ mk)[x.items.length * 3 + j]? = some u := fun j u hj => by
    rw [List.getElem?_append_right (by omega), show x.items.length * 3 + j - cl1.length = j by omega]; exact hj
   have hm1 : mk[1]? = some (.slice A3 1 c3) := by rw [r3]; rfl
   (refine CW.exit ?_; refine Z9 ?_; refine Z9 ?_; refine Z15 ?_; refine Z1 ?_; refine Z4 ?_)
   refine Z2 (Z0 (Z3 rfl) rfl (Z0 (Z30 rfl rfl rfl rfl) rfl (Z0 (Z29 rfl Zh rfl rfl rfl k22) rfl (Z0 (RV.len rfl rfl) rfl (Z0 (Z105 x.items.length rfl rfl rfl rfl rfl (vb1.isSome (by decide) (i := x.items.length) (by omega)) (by omega)) rfl (Z0 (Z31 rfl rfl rfl rfl) rfl (Z0 (Z21 rfl rfl rfl (fun w m => vb1.load_fld (hΦ w m.tail) hmkc hm1)) rfl ?_)))))))
   refine Z0 (Z5 rfl) rfl (Z6 ?_)
   (refine Z1 ?_; refine Z4 ?_)
   refine Z2 (Z0 (Z3 rfl) rfl (Z0 (RV.len rfl rfl) rfl (Z0 (RV.eql_t rfl rfl rfl) rfl (Z0 (Z3 rfl) rfl ?_))))
   refine Z24 rfl ?_; refine Z0 (Z3 rfl) rfl ?_
   refine Z24 rfl ?_; refine Z0 (RV.idx_r 0 rfl rfl rfl rfl rfl (va3.isSome (by decide) (i := 0) (by decide)) (by omega)) rfl ?_
   refine Z24 rfl ?_; refine Z0 (Z21 rfl rfl rfl (fun w m => va3.cell (hΦ w m.tail) (u := U8 195#8) rfl)) rfl ?_
   refine Z24 rfl ?_; refine Z0 (RV.eql8_t rfl rfl rfl rfl rfl) rfl ?_
   refine Z0 (Z112 rfl rfl rfl) rfl (Z0 (Z5 rfl) rfl (Z6 ?_))
   (refine Z1 ?_; refine CW.ret ?_)
   refine Z102 (rs := [.tmp 4]) [.bool true] [] rfl ⟨rfl, trivial⟩ rfl rfl (fun w m => m.tail) _ (.inl rfl)
theorem rlp_twin_orec (w0 : World) : ∀ (kf : Nat) (Φ : Ctx) (N : List Ent) (hΦ : ∀ w, Mem w0 w N → Φ w) (A0_ : Option Addr) (c0_ : Nat) (cs0_ : List Value) (a0 : List (It)) (res0 : List (It)) (va0 : View Φ A0_ a0.length c0_ 3 cs0_) (ha0 : Reps (ItRd Φ) cs0_ a0) (hf : rlp_twin.r kf a0 = some res0), DoesG Try.prog 37 [.slice A0_ a0.length c0_] w0 [] N (fun v G => ∃ (os : List Ow) (B : List Ent) (or0 : Option Nat) (kr0 : Nat) (rr0 : List Value), Ows.it os = res0 ∧ Ows.Ok os ∧ OwnS or0 os.length kr0 3 (Ows.cs os) rr0 ∧ v = sl or0 0 os.length kr0 ∧ G = (or0, blk (Ows.cs os ++ rr0) 30) :: (Ows.ents 30 os ++ B)) := by
 intro kf
 induction kf with
 | zero => intro Φ N hΦ A0_ c0_ cs0_ a0 res0 va0 ha0 hf; rw [rlp_twin.r] at hf; cases hf
 | succ kf ih =>
  intro Φ N hΦ A0_ c0_ cs0_ a0 res0 va0 ha0 hf
  rw [rlp_twin.r] at hf
  have m1 := va0.mx
  refine DoesG.enter Try.func37 rfl Try.ntmps37 rfl (M := N) rfl (Z4 (Z2 (Z0 (Z5 rfl) rfl (Z6 ?_))))
  (refine Z1 ?_; refine Z4 ?_)
  refine Z2 (Z0 (Z5 rfl) rfl (Z6 ?_))
  (refine Z1 ?_; refine Z4 ?_; refine Z4 ?_)
  refine Z2 (Z0 (Z3 rfl) rfl (Z0 (RV.len rfl rfl) rfl (Z0 (Z3 rfl) rfl (Z6 ?_))))
  obtain ⟨q2, hq3, hf⟩ := Z100 hf
  refine Z1 ?_
  refine Z115 (fun L' M' => ∃ (os : List Ow) (B : List Ent) (ob : Option Nat) (c : Nat) (r : List Value), q2 = Ows.it os ∧ Ows.Ok os ∧ OwnS ob os.length c 3 (Ows.cs os) r ∧ L' = [(3, sl ob 0 os.length c)] ∧ M' = (ob, blk (Ows.cs os ++ r) 30) :: (Ows.ents 30 os ++ (B ++ N))) ?_ ?_
  ·rintro L' M' ⟨os, B, ob, c, r, rfl, hok, ho, rfl, rfl⟩
   (refine Z1 ?_; refine Z4 ?_)
   refine Z2 (Z0 (Z3 rfl) rfl (Z0 (Z5 rfl) rfl (Z6 ?_)))
   (refine Z1 ?_; refine CW.ret ?_)
   obtain rfl := Zi hf
   refine Z102 (rs := [.tmp 2]) [sl ob 0 os.length c] ((ob, blk (Ows.cs os ++ r) 30) :: (Ows.ents 30 os ++ B)) rfl ⟨rfl, trivial⟩ rfl ⟨os, B, ob, c, r, rfl, hok, ho, rfl, rfl⟩ (fun w m => by simpa only [List.append_assoc, List.cons_append] using m) _ (.inl rfl)
  ·refine CW.block (Z114 (fun k L' M' => ∃ (os : List Ow) (n : Nat) (B : List Ent) (ob : Option Nat) (c : Nat) (r : List Value), (rlp_twin.l1 a0 (rlp_twin.r kf) k (Ows.it os) n) = some q2 ∧ Ows.Ok os ∧ OwnS ob os.length c 3 (Ows.cs os) r ∧ n ≤ 9223372036854775807 ∧ L' = [(3, sl ob 0 os.length c), (6, .slice A0_ a0.length c0_), (7, .int .i64 ((a0.length : Nat) : Int)), (8, .int .i64 (n : Int))] ∧ M' = (ob, blk (Ows.cs os ++ r) 30) :: (Ows.ents 30 os ++ (B ++ N))) ⟨[], 0, [], none, 0, [], hq3, trivial, OwnS.nil, by omega, rfl, rfl⟩ ⟨rfl, rfl, rfl, rfl, trivial⟩ (fun w m => m.nil_ent _) ?_)
   rintro k L' M' ⟨os, n, B, ob, c, r, hl, hok, ho, hn, rfl, rfl⟩
   rcases k with _ | k
   ·rw [rlp_twin.l1] at hl; cases hl
   rw [rlp_twin.l1] at hl
   refine Z4 (Z2 (Z0 (RV.lss rfl rfl) rfl (Z6 ?_)))
   (refine Z1 ?_; refine Z4 ?_)
   by_cases h1 : n < a0.length
   ·replace hl := if_t hl h1
    refine Z13 rfl (decide_eq_true (by omega)) ?_
    obtain ⟨x, hx, hl⟩ := Z100 hl
    obtain ⟨cs2, h43, h44⟩ := ha0.get ItRd.len hx
    obtain ⟨A2, c2, A3, c3, cs3, e53, v2, v3, h52⟩ := ItRd.opn h43
    subst e53
    (refine CW.skip ?_; refine Z1 ?_; refine Z4 ?_; refine CW.block ?_; refine Z4 ?_)
    refine Z2 (Z0 (Z105 n rfl rfl rfl rfl rfl (va0.isSome (by decide) h1) (by omega)) rfl (Z0 (Z110 rfl rfl rfl rfl (fun w m => va0.load (hΦ w m.tail.appR.appR) h44) rfl) rfl (OW.alloc rfl rfl rfl (fun b5 => ?_))))
    refine Z28 (Z104 rfl rfl rfl (by intro u hu; simp at hu; rcases hu with rfl | rfl | rfl <;> rfl) rfl rfl rfl) ?_
    refine Z6 (Z1 ?_)
    obtain ⟨y, hy, hl⟩ := Z100 hl
    obtain ⟨z, hz, hl⟩ := Z100 hl
    refine Z134 11 mixed (by kernel_rfl) rfl (Z18 0 rfl (by kernel_rfl) rfl (Z3 rfl) rfl (Z18 1 rfl (by kernel_rfl) rfl (Z30 rfl rfl rfl rfl) rfl (Z18 2 rfl (by kernel_rfl) rfl (Z29 rfl Zh rfl rfl rfl rfl) rfl (Z18 3 rfl (by kernel_rfl) rfl (Z30 rfl rfl rfl rfl) rfl (Z18 4 rfl (by kernel_rfl) rfl (Z29 rfl Zh rfl rfl rfl rfl) rfl (Z18 6 rfl (by kernel_rfl) rfl (Z30 rfl rfl rfl rfl) rfl (Z18 7 rfl (by kernel_rfl) rfl (Z29 rfl Zh rfl rfl rfl rfl) rfl ?_)))))))
    refine Z25 5 rfl (by kernel_rfl) rfl Try.call36 rfl (fun N' hN' => rlp_clone_does w0 Φ N' (fun w m => hΦ w ((hN' w m).tail.tail.appR.appR)) A2 c2 x.data y v2 hy) rfl ?_
    rintro _ _ ⟨B1, ob1, c1, r1, o1, rfl, rfl⟩
    refine Z25 8 rfl (by kernel_rfl) rfl Try.call37 rfl (fun N' hN' => ih Φ N' (fun w m => hΦ w ((hN' w m).tail.appR.tail.tail.appR.appR)) A3 c3 cs3 x.items z v3 h52 hz) rfl ?_
    rintro _ _ ⟨os2, B2, ob2, ci2, r2, rfl, hok2, o2, rfl, rfl⟩
    refine Z18 9 rfl (by kernel_rfl) rfl (Z111 (l := [.bool false, .slice none 0 0, .slice none 0 0]) (cs := [.bool x.list, sl ob1 0 y.length c1, sl ob2 0 os2.length ci2]) [(0, [.bool x.list]), (1, [sl ob1 0 y.length c1]), (2, [sl ob2 0 os2.length ci2])] rfl rfl rfl rfl rfl rfl rfl) rfl ?_
    refine UW.new 10 rfl (by kernel_rfl) rfl (NV.bsA rfl rfl (by intro x hx; simp at hx; subst hx; exact rfl) rfl rfl rfl (by decide) (by decide) rfl) rfl (fun b84 => ?_)
    refine UW.nil (by kernel_rfl) (Z20 (M' := (ob, blk (Ows.cs os ++ r) 30) :: (some b84, blk (Ow.cs (Ow.mk x.list ob1 y r1 c1 ob2 ci2 r2 os2)) 30) :: (Ows.ents 30 (os ++ [Ow.mk x.list ob1 y r1 c1 ob2 ci2 r2 os2]) ++ ((B2 ++ (B1 ++ B)) ++ N))) (fun w m => m.chunk [[(some b84, blk (Ow.cs (Ow.mk x.list ob1 y r1 c1 ob2 ci2 r2 os2)) 30)], [(ob2, blk (Ows.cs os2 ++ r2) 30)], Ows.ents 30 os2, B2, [(ob1, blk (u8s y ++ r1) 5)], B1, [(some b5, blk [.bool x.list, .slice A2 x.data.length c2, .slice A3 x.items.length c3] 30)], [(ob, blk (Ows.cs os ++ r) 30)], Ows.ents 30 os, B, N] [7, 0, 8, 4, 1, 2, 3, 5, 9, 10] rfl (by simp [Ow.cs]) (by simp [Ows.ents_app, Ows.ents, Ow.ents])) ?_)
    obtain ⟨hb, hl⟩ := Z116 hl
    rw [Ows.it_length] at hb
    simp only [List.length_cons, List.length_nil] at hb
    refine OW.appendOwn (s := 3) rfl rfl rfl rfl rfl rfl ho (fun w m => m.rd0 (r := []) (List.Mem.tail _ (by rw [List.append_nil]; exact List.Mem.head _)) (fun e => nomatch e)) rfl (Ow.cs_one _) (fun e => nomatch e) (by decide) (by decide) (by simp only [i30]; omega) rfl rfl ((os ++ [Ow.mk x.list ob1 y r1 c1 ob2 ci2 r2 os2]).length) (Ows.cs (os ++ [Ow.mk x.list ob1 y r1 c1 ob2 ci2 r2 os2])) (by simp) (by rw [Ows.cs_app, Ows.cs_sing]) (fun ob3 r3 c3' o3 => ?_)
    refine Z0 (Z5 rfl) rfl (Z6 ?_)
    (refine Z27 ?_; refine Z1 ?_)
    refine Z2 (Z0 (RV.add rfl rfl (by omega)) rfl (Z0 (Z3 rfl) rfl (Z6 ?_)))
    refine Z109 (k' := k) (Nat.lt_succ_self _) ⟨os ++ [Ow.mk x.list ob1 y r1 c1 ob2 ci2 r2 os2], n + 1, B2 ++ (B1 ++ B), ob3, c3', r3, ?_, Ows.Ok_app.2 ⟨hok, by rw [Ows.Ok, Ow.Ok]; exact ⟨⟨o1, o2, hok2⟩, trivial⟩⟩, o3, by omega, rfl, rfl⟩ ⟨rfl, rfl, rfl, rfl, trivial⟩ (fun w m => m.pick [0] 2 rfl rfl)
    rw [Ows.it_app]
    simp only [Ows.it, Ow.it]
    exact hl
   ·replace hl := if_f hl h1
    refine Z14 rfl (decide_eq_false (by omega)) (CW.exit ?_)
    (refine Z9 ?_; refine Z9 ?_; refine Z15 ?_)
    exact QW.join ⟨os, B, ob, c, r, (Zi hl).symm, hok, ho, rfl, rfl⟩ ⟨rfl, trivial⟩ (fun w m => m)
theorem rlp_List_own (w0 : World) (Φ : Ctx) (N : List Ent) (hΦ : ∀ w, Mem w0 w N → Φ w) (A0_ : Option Addr) (c0_ : Nat) (cs0_ : List Value) (a0 : List (It)) (res0 : It) (va0 : View Φ A0_ a0.length c0_ 3 cs0_) (ha0 : Reps (ItRd Φ) cs0_ a0) (hf : rlp_List a0 = some res0) : DoesG Try.prog 20 [.slice A0_ a0.length c0_] w0 [] N (fun v G => ∃ (o : Ow) (B : List Ent), o.it = res0 ∧ o.Ok ∧ v = .agg o.cs.toArray ∧ G = o.ents 30 ++ B) := by
 unfold rlp_List at hf
 obtain ⟨x, hx, hf⟩ := Z100 hf
 obtain rfl := Zi hf
 refine DoesG.enter Try.func20 rfl Try.ntmps20 rfl (M := N) rfl (Z4 (Z2 (OW.alloc (l := [.bool false, .slice none 0 0, .slice none 0 0]) rfl rfl rfl (fun b2 => (Z6 ?_)))))
 (refine Z1 ?_; refine Z4 ?_)
 refine Z2 (Z0 (Z3 rfl) rfl ?_)
 refine Z12 Try.call37 rfl (rlp_twin_orec w0 _ Φ ((some b2, blk [.bool false, .slice none 0 0, .slice none 0 0] 30) :: N) (fun w m => hΦ w m.tail) A0_ c0_ cs0_ a0 x va0 ha0 hx) rfl rfl ?_; rintro _ _ ⟨os, B, ob, c, r, rfl, hok, ho, rfl, rfl⟩; refine Z20 (M' := (some b2, blk [.bool false, .slice none 0 0, .slice none 0 0] 30) :: (ob, blk (Ows.cs os ++ r) 30) :: (Ows.ents 30 os ++ (B ++ N))) (fun w m => m.chunk [[(ob, blk (Ows.cs os ++ r) 30)], Ows.ents 30 os, B, [(some b2, blk [.bool false, .slice none 0 0, .slice none 0 0] 30)], N] [3, 0, 1, 2, 4] rfl (by simp) (by simp)) ?_
 refine Z0 (Z111 (l := [.bool false, .slice none 0 0, .slice none 0 0]) (cs := [.bool true, .slice none 0 0, sl ob 0 os.length c]) [(0, [.bool true]), (2, [sl ob 0 os.length c])] rfl rfl rfl rfl rfl rfl rfl) rfl ?_
 refine Z28 (Z104 rfl rfl rfl (by intro u hu; simp at hu; rcases hu with rfl | rfl | rfl <;> rfl) rfl rfl rfl) ?_
 refine Z6 ?_
 (refine Z1 ?_; refine CW.ret ?_)
 refine Z102 (rs := [.cell 2 30]) [.agg #[.bool true, .slice none 0 0, sl ob 0 os.length c]] (Ow.ents 30 (Ow.mk true none [] [] 0 ob c r os) ++ (((some b2, blk [.bool true, .slice none 0 0, sl ob 0 os.length c] 30) :: B))) rfl ?_ rfl ?_ ?_ _ (.inl rfl)
 ·exact ⟨⟨_, _, _, _, rfl, Zh, rfl, rfl, rfl, rfl⟩, trivial⟩
 ·exact ⟨Ow.mk true none [] [] 0 ob c r os, _, by rw [Ow.it], by rw [Ow.Ok]; exact ⟨OwnS.nil, ho, hok⟩, rfl, rfl⟩
 ·exact fun w m => by
   have m2 := m.nil_ent (blk (u8s [] ++ []) 5)
   exact m2.chunk [[(none, blk (u8s [] ++ []) 5)], [(some b2, blk [.bool true, .slice none 0 0, sl ob 0 os.length c] 30)], [(ob, blk (Ows.cs os ++ r) 30)], Ows.ents 30 os, B, N] [0, 2, 3, 1, 4, 5] rfl (by simp) (by simp [Ow.ents])
theorem receipt_LogItem_own (w0 : World) (Φ : Ctx) (N : List Ent) (hΦ : ∀ w, Mem w0 w N → Φ w) (cs0_ : List Value) (a0 : Log) (res0 : It) (res1 : Nat) (ha0 : LogRd Φ cs0_ a0) (hf : receipt_LogItem a0 = some (res0, res1)) : DoesG Try.prog 6 [.agg cs0_.toArray] w0 [] N (fun v G => ∃ (o : Ow) (B : List Ent), o.it = res0 ∧ o.Ok ∧ (res1 ≤ 9223372036854775807) ∧ v = .tuple #[.agg o.cs.toArray, .int .i64 ((res1 : Nat) : Int)] ∧ G = o.ents 30 ++ B) := by
 unfold receipt_LogItem at hf
 replace ha0 := LogRd.mono (Ψ := More w0 Φ []) (fun w q => q.1) _ _ ha0
 have h10 := ha0
 obtain ⟨A1, c2, cs4, A6, c7, e9, v3, h5, v8⟩ := LogRd.opn ha0
 subst e9
 have m11 := v3.mx
 have m12 := v8.mx
 refine DoesG.enter Try.func6 rfl Try.ntmps6 rfl (M := (([] ++ N))) rfl (Z4 (Z2 (OW.boxA rfl rfl (fun b13 => (OW.alloc (l := [.bool false, .slice none 0 0, .slice none 0 0]) rfl rfl rfl (fun b14 => (Z0 (Z5 rfl) rfl (Z6 (Z1 (Z4 (Z4 (Z2 (Z0 (Z30 rfl rfl rfl rfl) rfl (Z7 (ptr (some b13) 20) rfl ?_))))))))))))))
 refine Z0 (Z29 rfl (List.Mem.tail _ Zh) rfl rfl rfl (Z106 (⟨a0.address, .slice A1 a0.topics.length c2, .slice A6 a0.data.length c7⟩ : LogC))) rfl (Z0 (RV.len rfl rfl) rfl (Z0 (RV.gtr rfl rfl) rfl (Z7 (.bool (decide (4 < a0.topics.length))) (congrArg Value.bool (decide_eq_decide.2 (by omega))) (Z6 (Z1 ?_)))))
 by_cases h15 : 4 < a0.topics.length
 ·replace hf := if_t hf h15
  refine Z13 rfl (decide_eq_true h15) (Z4 (Z2 (Z0 (Z111 (l := [.bool false, .slice none 0 0, .slice none 0 0]) (cs := [.bool false, .slice none 0 0, .slice none 0 0]) [] rfl rfl rfl rfl rfl rfl rfl) rfl ?_)))
  refine Z28 (Z104 rfl rfl rfl (by intro u hu; simp at hu; rcases hu with rfl | rfl | rfl <;> rfl) rfl rfl rfl) ?_
  refine Z0 (Z5 rfl) rfl (Z6 (Z1 (CW.ret (Z8 ?_))))
  have er0 := Zi hf
  obtain ⟨e0, er1⟩ := Prod.mk.inj er0
  clear er0
  subst e0
  subst er1
  have v16 : View (More w0 Φ []) none ([] : List (BitVec 8)).length 0 1 (u8s []) := View.nil
  have v17 : View (More w0 Φ []) none ([] : List (It)).length 0 3 [] := View.nil
  refine Z102 (rs := [.cell 2 30, .tmp 3]) ([.agg [.bool false, .slice none 0 0, .slice none 0 0].toArray, .int .i64 (174 : Int)]) (Ow.ents 30 (Ow.mk false none [] [] 0 none 0 [] []) ++ ([])) rfl ?_ rfl ?_ ?_ _ (.inl rfl)
  ·exact ⟨⟨_, _, _, _, rfl, Zh, rfl, rfl, rfl, rfl⟩, rfl, trivial⟩
  ·exact ⟨(Ow.mk false none [] [] 0 none 0 [] []), _, by rw [Ow.it, Ows.it], by rw [Ow.Ok]; exact ⟨OwnS.nil, OwnS.nil, trivial⟩, (by omega), rfl, rfl⟩
  ·exact (fun w m => by rw [Ow.ents, Ows.ents]; exact ((m.pick [] 2 rfl rfl).nil_ent _).nil_ent _)
 ·replace hf := if_f hf h15
  refine Z14 rfl (decide_eq_false h15) (CW.skip (Z1 (Z4 (Z2 (Z0 (Z5 rfl) rfl (Z6 (Z1 (Z4 (Z4 (Z2 (Z0 (Z30 rfl rfl rfl rfl) rfl (Z7 (ptr (some b13) 20) rfl (Z0 (Z29 rfl (List.Mem.tail _ Zh) rfl rfl rfl (Z106 (⟨a0.address, .slice A1 a0.topics.length c2, .slice A6 a0.data.length c7⟩ : LogC))) rfl (Z0 (RV.len rfl rfl) rfl ?_))))))))))))))
  refine Z0 (Z3 rfl) rfl (Z6 (Z1 ?_))
  obtain ⟨q18, hq19, hf⟩ := Z100 hf
  refine Z115 (fun L' M' => ∃ l22 : List (It), ∃ B20 : List Ent, ∃ cs23 : List Value, ∃ ob25 : Option Nat, ∃ c26 : Nat, ∃ r27 : List Value, q18 = l22 ∧ (∀ w, Mem w0 w B20 → Mem w0 w []) ∧ (Reps (ItRd (More w0 Φ B20)) cs23 l22) ∧ (OwnS ob25 l22.length c26 3 cs23 r27) ∧ L' = [(1, ptr (some b13) 0), (2, ptr (some b14) 0), (4, sl ob25 0 l22.length c26)] ∧ M' = ((ob25, blk (cs23 ++ r27) 30) :: (some b14, blk [.bool false, .slice none 0 0, .slice none 0 0] 30) :: (some b13, blk (⟨a0.address, .slice A1 a0.topics.length c2, .slice A6 a0.data.length c7⟩ : LogC).C 27) :: (B20 ++ N))) ?_ ?_
  ·rintro L30 M31 ⟨l22, B20, cs23, ob25, c26, r27, e29, hB21, h24, o28, e32, e33⟩
   rw [e32, e33]
   clear e32 e33 L30 M31
   clear hq19
   rw [e29] at hf
   clear e29
   try dsimp only at hf
   have gq4 : ∀ w, More w0 Φ B20 w → More w0 Φ [] w := fun w q => More.mono (fun w m => hB21 w (m)) q
   replace h10 := LogRd.mono gq4 _ _ h10
   replace v3 := v3.mono gq4
   replace h5 := h5.mono (Ar8Rd.mono gq4)
   replace v8 := v8.mono gq4
   have m34 := o28.mx
   refine Z1 (Z4 (CW.mem (M' := (some b14, blk [.bool false, .slice none 0 0, .slice none 0 0] 30) :: (some b13, blk (⟨a0.address, .slice A1 a0.topics.length c2, .slice A6 a0.data.length c7⟩ : LogC).C 27) :: (((ob25, blk (cs23 ++ r27) 30) :: B20) ++ N)) (fun w m => m.pick [1, 2, 0] 3 rfl rfl) ?_))
   have gq5 : ∀ w, More w0 Φ ((ob25, blk (cs23 ++ r27) 30) :: B20) w → More w0 Φ B20 w := fun w q => More.mono (fun w m => (m).tail) q
   replace h24 := h24.mono (ItRd.mono gq5)
   replace h10 := LogRd.mono gq5 _ _ h10
   replace v3 := v3.mono gq5
   replace h5 := h5.mono (Ar8Rd.mono gq5)
   replace v8 := v8.mono gq5
   have v35 : View (More w0 Φ ((ob25, blk (cs23 ++ r27) 30) :: B20)) ((ob25).map fun k => ⟨k, 0, none⟩) l22.length c26 3 cs23 := o28.view (by decide) (fun w q => q.2.sublist (List.singleton_sublist.2 (List.mem_cons_self ..)))
   refine CW.mem (M' := (some b14, blk [.bool false, .slice none 0 0, .slice none 0 0] 30) :: (((some b13, blk (⟨a0.address, .slice A1 a0.topics.length c2, .slice A6 a0.data.length c7⟩ : LogC).C 27) :: ((ob25, blk (cs23 ++ r27) 30) :: B20)) ++ N)) (fun w m => m.pick [0, 1] 2 rfl rfl) ?_
   have gq6 : ∀ w, More w0 Φ ((some b13, blk (⟨a0.address, .slice A1 a0.topics.length c2, .slice A6 a0.data.length c7⟩ : LogC).C 27) :: ((ob25, blk (cs23 ++ r27) 30) :: B20)) w → More w0 Φ ((ob25, blk (cs23 ++ r27) 30) :: B20) w := fun w q => More.mono (fun w m => (m).tail) q
   replace h10 := LogRd.mono gq6 _ _ h10
   replace v3 := v3.mono gq6
   replace h5 := h5.mono (Ar8Rd.mono gq6)
   replace v8 := v8.mono gq6
   replace v35 := v35.mono gq6
   replace h24 := h24.mono (ItRd.mono gq6)
   have hH36 : Held w0 (More w0 Φ ((some b13, blk (⟨a0.address, .slice A1 a0.topics.length c2, .slice A6 a0.data.length c7⟩ : LogC).C 27) :: ((ob25, blk (cs23 ++ r27) 30) :: B20))) b13 (⟨a0.address, .slice A1 a0.topics.length c2, .slice A6 a0.data.length c7⟩ : LogC).C 27 := fun w q => q.2.sublist (List.singleton_sublist.2 (List.mem_cons_self ..))
   refine CW.drawsX ((some b14, blk [.bool false, .slice none 0 0, .slice none 0 0] 30) :: (((some b13, blk (⟨a0.address, .slice A1 a0.topics.length c2, .slice A6 a0.data.length c7⟩ : LogC).C 27) :: ((ob25, blk (cs23 ++ r27) 30) :: B20)) ++ N)) [11] (fun w m => m.pick [0] 1 rfl rfl) mixed (by kernel_rfl) (Z10 0 rfl (by kernel_rfl) rfl (Z30 rfl rfl rfl rfl) rfl (XW.slot (ptr (some b13) 0) rfl (Z10 1 rfl (by kernel_rfl) rfl (RV.arr_all rfl rfl rfl) rfl ?_)))
   refine XW.slot (.slice (some ⟨b13, 0, none⟩) a0.address.toList.length 20) (by rw [Zv]; try rfl) ?_
   have v37 : View (More w0 Φ ((some b13, blk (⟨a0.address, .slice A1 a0.topics.length c2, .slice A6 a0.data.length c7⟩ : LogC).C 27) :: ((ob25, blk (cs23 ++ r27) 30) :: B20))) (some ⟨b13, 0, none⟩) a0.address.toList.length 20 1 (u8s a0.address.toList) := Held.part hH36 (Z121 (⟨a0.address, .slice A1 a0.topics.length c2, .slice A6 a0.data.length c7⟩ : LogC)) (by decide)
   refine Z10 3 rfl (by kernel_rfl) rfl (Z3 rfl) rfl (Z10 5 rfl (by kernel_rfl) rfl (Z30 rfl rfl rfl rfl) rfl (XW.slot (ptr (some b13) 21) rfl (Z10 6 rfl (by kernel_rfl) rfl (RV.loadH rfl hH36 (fun w m => Z103 hΦ 1 m rfl) rfl rfl (Z124 (⟨a0.address, .slice A1 a0.topics.length c2, .slice A6 a0.data.length c7⟩ : LogC))) rfl (XWp.start (l := [.bool false, .slice none 0 0, .slice none 0 0]) (te := 30) (dp := 7) 10 rfl (NV.alloc rfl rfl) rfl rfl ?_))))
   obtain ⟨x39, hx38, hf⟩ := Z100 hf
   refine XWp.callG 2 rfl (by kernel_rfl) rfl Try.call19 rfl (fun N' hN' => Z140 w0 (More w0 Φ ((some b13, blk (⟨a0.address, .slice A1 a0.topics.length c2, .slice A6 a0.data.length c7⟩ : LogC).C 27) :: ((ob25, blk (cs23 ++ r27) 30) :: B20))) N' (fun w m => Z103 hΦ 1 (hN' w m) rfl) (some ⟨b13, 0, none⟩) 20 a0.address.toList x39 v37 hx38) rfl ?_
   rintro L43 M44 ⟨B40, cs41, h42, e45, e46⟩
   rw [e45, e46]
   clear e45 e46 L43 M44
   refine XWp.mem (M' := ((some b14, blk [.bool false, .slice none 0 0, .slice none 0 0] 30) :: ((B40 ++ ((some b13, blk (⟨a0.address, .slice A1 a0.topics.length c2, .slice A6 a0.data.length c7⟩ : LogC).C 27) :: ((ob25, blk (cs23 ++ r27) 30) :: B20))) ++ N))) (fun w m => by have h := Z107 (A := B40) m 0 1 rfl rfl; exact h) (fun w m => by have h := Z118 (B := ((some b13, blk (⟨a0.address, .slice A1 a0.topics.length c2, .slice A6 a0.data.length c7⟩ : LogC).C 27) :: ((ob25, blk (cs23 ++ r27) 30) :: B20))) (B' := (B40 ++ ((some b13, blk (⟨a0.address, .slice A1 a0.topics.length c2, .slice A6 a0.data.length c7⟩ : LogC).C 27) :: ((ob25, blk (cs23 ++ r27) 30) :: B20)))) (List.sublist_append_right _ _) (m.pick [0] 1 rfl rfl) 1 rfl; exact h) ?_
   have gq7 : ∀ w, More w0 Φ (B40 ++ ((some b13, blk (⟨a0.address, .slice A1 a0.topics.length c2, .slice A6 a0.data.length c7⟩ : LogC).C 27) :: ((ob25, blk (cs23 ++ r27) 30) :: B20))) w → More w0 Φ ((some b13, blk (⟨a0.address, .slice A1 a0.topics.length c2, .slice A6 a0.data.length c7⟩ : LogC).C 27) :: ((ob25, blk (cs23 ++ r27) 30) :: B20)) w := fun w q => More.mono (fun w m => (m).appR) q
   replace hH36 := hH36.mono gq7
   replace h10 := LogRd.mono gq7 _ _ h10
   replace v3 := v3.mono gq7
   replace h5 := h5.mono (Ar8Rd.mono gq7)
   replace v8 := v8.mono gq7
   replace v35 := v35.mono gq7
   replace h24 := h24.mono (ItRd.mono gq7)
   replace v37 := v37.mono gq7
   replace h42 := ItRd.mono (Ψ := (More w0 Φ (B40 ++ ((some b13, blk (⟨a0.address, .slice A1 a0.topics.length c2, .slice A6 a0.data.length c7⟩ : LogC).C 27) :: ((ob25, blk (cs23 ++ r27) 30) :: B20))))) (fun w q => Z117 q) _ _ h42
   have h56 := h42
   obtain ⟨A47, c48, A50, c51, cs53, e55, v49, v52, h54⟩ := ItRd.opn h42
   subst e55
   have m57 := v49.mx
   have m58 := v52.mx
   have m59 := v49.mx
   have m60 := v52.mx
   obtain ⟨x62, hx61, hf⟩ := Z100 hf
   refine XWp.callG 4 rfl (by kernel_rfl) rfl Try.call20 rfl (fun N' hN' => rlp_List_does w0 (More w0 Φ (B40 ++ ((some b13, blk (⟨a0.address, .slice A1 a0.topics.length c2, .slice A6 a0.data.length c7⟩ : LogC).C 27) :: ((ob25, blk (cs23 ++ r27) 30) :: B20)))) N' (fun w m => Z103 hΦ 1 (hN' w m) rfl) ((ob25).map fun k => ⟨k, 0, none⟩) c26 cs23 l22 x62 v35 h24 hx61) rfl ?_
   rintro L66 M67 ⟨B63, cs64, h65, e68, e69⟩
   rw [e68, e69]
   clear e68 e69 L66 M67
   refine XWp.mem (M' := ((some b14, blk [.bool false, .slice none 0 0, .slice none 0 0] 30) :: ((B63 ++ (B40 ++ ((some b13, blk (⟨a0.address, .slice A1 a0.topics.length c2, .slice A6 a0.data.length c7⟩ : LogC).C 27) :: ((ob25, blk (cs23 ++ r27) 30) :: B20)))) ++ N))) (fun w m => by have h := Z107 (A := B63) m 0 1 rfl rfl; exact h) (fun w m => by have h := Z118 (B := ((some b13, blk (⟨a0.address, .slice A1 a0.topics.length c2, .slice A6 a0.data.length c7⟩ : LogC).C 27) :: ((ob25, blk (cs23 ++ r27) 30) :: B20))) (B' := (B63 ++ (B40 ++ ((some b13, blk (⟨a0.address, .slice A1 a0.topics.length c2, .slice A6 a0.data.length c7⟩ : LogC).C 27) :: ((ob25, blk (cs23 ++ r27) 30) :: B20))))) ((List.sublist_append_right _ _).trans (List.sublist_append_right _ _)) (m.pick [0] 1 rfl rfl) 1 rfl; exact h) ?_
   have gq8 : ∀ w, More w0 Φ (B63 ++ (B40 ++ ((some b13, blk (⟨a0.address, .slice A1 a0.topics.length c2, .slice A6 a0.data.length c7⟩ : LogC).C 27) :: ((ob25, blk (cs23 ++ r27) 30) :: B20)))) w → More w0 Φ (B40 ++ ((some b13, blk (⟨a0.address, .slice A1 a0.topics.length c2, .slice A6 a0.data.length c7⟩ : LogC).C 27) :: ((ob25, blk (cs23 ++ r27) 30) :: B20))) w := fun w q => More.mono (fun w m => (m).appR) q
   replace hH36 := hH36.mono gq8
   replace h10 := LogRd.mono gq8 _ _ h10
   replace v3 := v3.mono gq8
   replace h5 := h5.mono (Ar8Rd.mono gq8)
   replace v8 := v8.mono gq8
   replace v35 := v35.mono gq8
   replace h24 := h24.mono (ItRd.mono gq8)
   replace v37 := v37.mono gq8
   replace h56 := ItRd.mono gq8 _ _ h56
   replace v49 := v49.mono gq8
   replace v52 := v52.mono gq8
   replace h54 := h54.mono (ItRd.mono gq8)
   replace h65 := ItRd.mono (Ψ := (More w0 Φ (B63 ++ (B40 ++ ((some b13, blk (⟨a0.address, .slice A1 a0.topics.length c2, .slice A6 a0.data.length c7⟩ : LogC).C 27) :: ((ob25, blk (cs23 ++ r27) 30) :: B20)))))) (fun w q => Z117 q) _ _ h65
   have h79 := h65
   obtain ⟨A70, c71, A73, c74, cs76, e78, v72, v75, h77⟩ := ItRd.opn h65
   subst e78
   have m80 := v72.mx
   have m81 := v75.mx
   have m82 := v72.mx
   have m83 := v75.mx
   obtain ⟨x85, hx84, hf⟩ := Z100 hf
   refine XWp.callG 7 rfl (by kernel_rfl) rfl Try.call19 rfl (fun N' hN' => Z140 w0 (More w0 Φ (B63 ++ (B40 ++ ((some b13, blk (⟨a0.address, .slice A1 a0.topics.length c2, .slice A6 a0.data.length c7⟩ : LogC).C 27) :: ((ob25, blk (cs23 ++ r27) 30) :: B20))))) N' (fun w m => Z103 hΦ 1 (hN' w m) rfl) A6 c7 a0.data x85 v8 hx84) rfl ?_
   rintro L89 M90 ⟨B86, cs87, h88, e91, e92⟩
   rw [e91, e92]
   clear e91 e92 L89 M90
   refine XWp.mem (M' := ((some b14, blk [.bool false, .slice none 0 0, .slice none 0 0] 30) :: ((B86 ++ (B63 ++ (B40 ++ ((some b13, blk (⟨a0.address, .slice A1 a0.topics.length c2, .slice A6 a0.data.length c7⟩ : LogC).C 27) :: ((ob25, blk (cs23 ++ r27) 30) :: B20))))) ++ N))) (fun w m => by have h := Z107 (A := B86) m 0 1 rfl rfl; exact h) (fun w m => by have h := Z118 (B := ((some b13, blk (⟨a0.address, .slice A1 a0.topics.length c2, .slice A6 a0.data.length c7⟩ : LogC).C 27) :: ((ob25, blk (cs23 ++ r27) 30) :: B20))) (B' := (B86 ++ (B63 ++ (B40 ++ ((some b13, blk (⟨a0.address, .slice A1 a0.topics.length c2, .slice A6 a0.data.length c7⟩ : LogC).C 27) :: ((ob25, blk (cs23 ++ r27) 30) :: B20)))))) ((List.sublist_append_right _ _).trans ((List.sublist_append_right _ _).trans (List.sublist_append_right _ _))) (m.pick [0] 1 rfl rfl) 1 rfl; exact h) ?_
   have gq9 : ∀ w, More w0 Φ (B86 ++ (B63 ++ (B40 ++ ((some b13, blk (⟨a0.address, .slice A1 a0.topics.length c2, .slice A6 a0.data.length c7⟩ : LogC).C 27) :: ((ob25, blk (cs23 ++ r27) 30) :: B20))))) w → More w0 Φ (B63 ++ (B40 ++ ((some b13, blk (⟨a0.address, .slice A1 a0.topics.length c2, .slice A6 a0.data.length c7⟩ : LogC).C 27) :: ((ob25, blk (cs23 ++ r27) 30) :: B20)))) w := fun w q => More.mono (fun w m => (m).appR) q
   replace hH36 := hH36.mono gq9
   replace h10 := LogRd.mono gq9 _ _ h10
   replace v3 := v3.mono gq9
   replace h5 := h5.mono (Ar8Rd.mono gq9)
   replace v8 := v8.mono gq9
   replace v35 := v35.mono gq9
   replace h24 := h24.mono (ItRd.mono gq9)
   replace v37 := v37.mono gq9
   replace h56 := ItRd.mono gq9 _ _ h56
   replace v49 := v49.mono gq9
   replace v52 := v52.mono gq9
   replace h54 := h54.mono (ItRd.mono gq9)
   replace h79 := ItRd.mono gq9 _ _ h79
   replace v72 := v72.mono gq9
   replace v75 := v75.mono gq9
   replace h77 := h77.mono (ItRd.mono gq9)
   replace h88 := ItRd.mono (Ψ := (More w0 Φ (B86 ++ (B63 ++ (B40 ++ ((some b13, blk (⟨a0.address, .slice A1 a0.topics.length c2, .slice A6 a0.data.length c7⟩ : LogC).C 27) :: ((ob25, blk (cs23 ++ r27) 30) :: B20))))))) (fun w q => Z117 q) _ _ h88
   have h102 := h88
   obtain ⟨A93, c94, A96, c97, cs99, e101, v95, v98, h100⟩ := ItRd.opn h88
   subst e101
   have m103 := v95.mx
   have m104 := v98.mx
   have m105 := v95.mx
   have m106 := v98.mx
   refine XWp.new 8 rfl (by kernel_rfl) rfl (NV.bsA rfl rfl (by intro x hx; simp at hx; rcases hx with rfl | rfl | rfl <;> exact rfl) rfl rfl rfl (by decide) (by decide) rfl) rfl (fun b107 => ?_)
   have h110 : Reps (ItRd (More w0 Φ (B86 ++ (B63 ++ (B40 ++ ((some b13, blk (⟨a0.address, .slice A1 a0.topics.length c2, .slice A6 a0.data.length c7⟩ : LogC).C 27) :: ((ob25, blk (cs23 ++ r27) 30) :: B20))))))) (([.bool (x39.list), .slice A47 x39.data.length c48, .slice A50 x39.items.length c51] : List Value) ++ ([.bool (x62.list), .slice A70 x62.data.length c71, .slice A73 x62.items.length c74] : List Value) ++ ([.bool (x85.list), .slice A93 x85.data.length c94, .slice A96 x85.items.length c97] : List Value)) [x39, x62, x85] := by simpa using (show Reps (ItRd (More w0 Φ (B86 ++ (B63 ++ (B40 ++ ((some b13, blk (⟨a0.address, .slice A1 a0.topics.length c2, .slice A6 a0.data.length c7⟩ : LogC).C 27) :: ((ob25, blk (cs23 ++ r27) 30) :: B20))))))) _ [x39, x62, x85] from (.cons h56 (.cons h79 (.cons h102 .nil))))
   refine XWp.mem (M' := (((some b107), blk ((([.bool (x39.list), .slice A47 x39.data.length c48, .slice A50 x39.items.length c51] : List Value) ++ ([.bool (x62.list), .slice A70 x62.data.length c71, .slice A73 x62.items.length c74] : List Value) ++ ([.bool (x85.list), .slice A93 x85.data.length c94, .slice A96 x85.items.length c97] : List Value)) ++ []) 30) :: (some b14, blk [.bool false, .slice none 0 0, .slice none 0 0] 30) :: ((B86 ++ (B63 ++ (B40 ++ ((some b13, blk (⟨a0.address, .slice A1 a0.topics.length c2, .slice A6 a0.data.length c7⟩ : LogC).C 27) :: ((ob25, blk (cs23 ++ r27) 30) :: B20))))) ++ N))) (fun w m => m) (fun w m => by have h := Z118 (B := ((some b13, blk (⟨a0.address, .slice A1 a0.topics.length c2, .slice A6 a0.data.length c7⟩ : LogC).C 27) :: ((ob25, blk (cs23 ++ r27) 30) :: B20))) (B' := (B86 ++ (B63 ++ (B40 ++ ((some b13, blk (⟨a0.address, .slice A1 a0.topics.length c2, .slice A6 a0.data.length c7⟩ : LogC).C 27) :: ((ob25, blk (cs23 ++ r27) 30) :: B20)))))) ((List.sublist_append_right _ _).trans ((List.sublist_append_right _ _).trans (List.sublist_append_right _ _))) (m.pick [1] 2 rfl rfl) 1 rfl; exact h) ?_
   have o108 : OwnS (some b107) ([x39, x62, x85] : List (It)).length 3 3 (([.bool (x39.list), .slice A47 x39.data.length c48, .slice A50 x39.items.length c51] : List Value) ++ ([.bool (x62.list), .slice A70 x62.data.length c71, .slice A73 x62.items.length c74] : List Value) ++ ([.bool (x85.list), .slice A93 x85.data.length c94, .slice A96 x85.items.length c97] : List Value)) [] := ⟨by simp [ItRd], by simp [ItRd], (fun h => nomatch h), by simp⟩
   have mx_o108 := o108.mx
   refine XWp.slot (sl (some b107) 0 ([x39, x62, x85] : List (It)).length 3) (rfl) ?_
   refine XWp.mem (M' := (some b14, blk [.bool false, .slice none 0 0, .slice none 0 0] 30) :: ((((some b107), blk ((([.bool (x39.list), .slice A47 x39.data.length c48, .slice A50 x39.items.length c51] : List Value) ++ ([.bool (x62.list), .slice A70 x62.data.length c71, .slice A73 x62.items.length c74] : List Value) ++ ([.bool (x85.list), .slice A93 x85.data.length c94, .slice A96 x85.items.length c97] : List Value)) ++ []) 30) :: (B86 ++ (B63 ++ (B40 ++ ((some b13, blk (⟨a0.address, .slice A1 a0.topics.length c2, .slice A6 a0.data.length c7⟩ : LogC).C 27) :: ((ob25, blk (cs23 ++ r27) 30) :: B20)))))) ++ N)) (fun w m => m.pick [1, 0] 2 rfl rfl) (fun w m => by have h := Z118 (B := ((some b13, blk (⟨a0.address, .slice A1 a0.topics.length c2, .slice A6 a0.data.length c7⟩ : LogC).C 27) :: ((ob25, blk (cs23 ++ r27) 30) :: B20))) (B' := (((some b107), blk ((([.bool (x39.list), .slice A47 x39.data.length c48, .slice A50 x39.items.length c51] : List Value) ++ ([.bool (x62.list), .slice A70 x62.data.length c71, .slice A73 x62.items.length c74] : List Value) ++ ([.bool (x85.list), .slice A93 x85.data.length c94, .slice A96 x85.items.length c97] : List Value)) ++ []) 30) :: (B86 ++ (B63 ++ (B40 ++ ((some b13, blk (⟨a0.address, .slice A1 a0.topics.length c2, .slice A6 a0.data.length c7⟩ : LogC).C 27) :: ((ob25, blk (cs23 ++ r27) 30) :: B20))))))) ((List.sublist_append_right _ _).trans ((List.sublist_append_right _ _).trans ((List.sublist_append_right _ _).trans (List.sublist_cons_self _ _)))) (m.pick [0] 1 rfl rfl) 1 rfl; exact h) ?_
   have gq10 : ∀ w, More w0 Φ (((some b107), blk ((([.bool (x39.list), .slice A47 x39.data.length c48, .slice A50 x39.items.length c51] : List Value) ++ ([.bool (x62.list), .slice A70 x62.data.length c71, .slice A73 x62.items.length c74] : List Value) ++ ([.bool (x85.list), .slice A93 x85.data.length c94, .slice A96 x85.items.length c97] : List Value)) ++ []) 30) :: (B86 ++ (B63 ++ (B40 ++ ((some b13, blk (⟨a0.address, .slice A1 a0.topics.length c2, .slice A6 a0.data.length c7⟩ : LogC).C 27) :: ((ob25, blk (cs23 ++ r27) 30) :: B20)))))) w → More w0 Φ (B86 ++ (B63 ++ (B40 ++ ((some b13, blk (⟨a0.address, .slice A1 a0.topics.length c2, .slice A6 a0.data.length c7⟩ : LogC).C 27) :: ((ob25, blk (cs23 ++ r27) 30) :: B20))))) w := fun w q => More.mono (fun w m => (m).tail) q
   replace hH36 := hH36.mono gq10
   replace h10 := LogRd.mono gq10 _ _ h10
   replace v3 := v3.mono gq10
   replace h5 := h5.mono (Ar8Rd.mono gq10)
   replace v8 := v8.mono gq10
   replace v35 := v35.mono gq10
   replace h24 := h24.mono (ItRd.mono gq10)
   replace v37 := v37.mono gq10
   replace h56 := ItRd.mono gq10 _ _ h56
   replace v49 := v49.mono gq10
   replace v52 := v52.mono gq10
   replace h54 := h54.mono (ItRd.mono gq10)
   replace h79 := ItRd.mono gq10 _ _ h79
   replace v72 := v72.mono gq10
   replace v75 := v75.mono gq10
   replace h77 := h77.mono (ItRd.mono gq10)
   replace h102 := ItRd.mono gq10 _ _ h102
   replace v95 := v95.mono gq10
   replace v98 := v98.mono gq10
   replace h100 := h100.mono (ItRd.mono gq10)
   replace h110 := h110.mono (ItRd.mono gq10)
   have v111 : View (More w0 Φ (((some b107), blk ((([.bool (x39.list), .slice A47 x39.data.length c48, .slice A50 x39.items.length c51] : List Value) ++ ([.bool (x62.list), .slice A70 x62.data.length c71, .slice A73 x62.items.length c74] : List Value) ++ ([.bool (x85.list), .slice A93 x85.data.length c94, .slice A96 x85.items.length c97] : List Value)) ++ []) 30) :: (B86 ++ (B63 ++ (B40 ++ ((some b13, blk (⟨a0.address, .slice A1 a0.topics.length c2, .slice A6 a0.data.length c7⟩ : LogC).C 27) :: ((ob25, blk (cs23 ++ r27) 30) :: B20))))))) (((some b107)).map fun k => ⟨k, 0, none⟩) ([x39, x62, x85] : List (It)).length 3 3 (([.bool (x39.list), .slice A47 x39.data.length c48, .slice A50 x39.items.length c51] : List Value) ++ ([.bool (x62.list), .slice A70 x62.data.length c71, .slice A73 x62.items.length c74] : List Value) ++ ([.bool (x85.list), .slice A93 x85.data.length c94, .slice A96 x85.items.length c97] : List Value)) := o108.view (by decide) (fun w q => q.2.sublist (List.singleton_sublist.2 (List.mem_cons_self ..)))
   obtain ⟨x113, hx112, hf⟩ := Z100 hf
   refine XWp.callG 9 rfl (by kernel_rfl) rfl Try.call20 rfl (fun N' hN' => rlp_List_own w0 (More w0 Φ (((some b107), blk ((([.bool (x39.list), .slice A47 x39.data.length c48, .slice A50 x39.items.length c51] : List Value) ++ ([.bool (x62.list), .slice A70 x62.data.length c71, .slice A73 x62.items.length c74] : List Value) ++ ([.bool (x85.list), .slice A93 x85.data.length c94, .slice A96 x85.items.length c97] : List Value)) ++ []) 30) :: (B86 ++ (B63 ++ (B40 ++ ((some b13, blk (⟨a0.address, .slice A1 a0.topics.length c2, .slice A6 a0.data.length c7⟩ : LogC).C 27) :: ((ob25, blk (cs23 ++ r27) 30) :: B20))))))) N' (fun w m => Z103 hΦ 1 (hN' w m) rfl) (((some b107)).map fun k => ⟨k, 0, none⟩) 3 (([.bool (x39.list), .slice A47 x39.data.length c48, .slice A50 x39.items.length c51] : List Value) ++ ([.bool (x62.list), .slice A70 x62.data.length c71, .slice A73 x62.items.length c74] : List Value) ++ ([.bool (x85.list), .slice A93 x85.data.length c94, .slice A96 x85.items.length c97] : List Value)) ([x39, x62, x85] : List (It)) x113 v111 h110 hx112) rfl ?_
   rintro L117 M118 ⟨o, B1, hoi, hok, e119, e120⟩
   obtain ⟨B114, hB⟩ : ∃ B, B = o.ents 30 ++ B1 := ⟨_, rfl⟩
   obtain ⟨cs115, hc⟩ : ∃ c, c = o.cs := ⟨_, rfl⟩
   have h116 : ItRd (More w0 (More w0 Φ (((some b107), blk ((([.bool (x39.list), .slice A47 x39.data.length c48, .slice A50 x39.items.length c51] : List Value) ++ ([.bool (x62.list), .slice A70 x62.data.length c71, .slice A73 x62.items.length c74] : List Value) ++ ([.bool (x85.list), .slice A93 x85.data.length c94, .slice A96 x85.items.length c97] : List Value)) ++ []) 30) :: (B86 ++ (B63 ++ (B40 ++ ((some b13, blk (⟨a0.address, .slice A1 a0.topics.length c2, .slice A6 a0.data.length c7⟩ : LogC).C 27) :: ((ob25, blk (cs23 ++ r27) 30) :: B20))))))) B114) cs115 x113 := by rw [hc, ← hoi]; exact Ow.rd o hok (fun w q => by rw [hB] at q; exact q.2.appL)
   rw [← hc] at e119
   rw [← hB] at e120
   rw [e119, e120]
   clear e119 e120 L117 M118
   refine XWp.mem (M' := ((some b14, blk [.bool false, .slice none 0 0, .slice none 0 0] 30) :: ((B114 ++ (((some b107), blk ((([.bool (x39.list), .slice A47 x39.data.length c48, .slice A50 x39.items.length c51] : List Value) ++ ([.bool (x62.list), .slice A70 x62.data.length c71, .slice A73 x62.items.length c74] : List Value) ++ ([.bool (x85.list), .slice A93 x85.data.length c94, .slice A96 x85.items.length c97] : List Value)) ++ []) 30) :: (B86 ++ (B63 ++ (B40 ++ ((some b13, blk (⟨a0.address, .slice A1 a0.topics.length c2, .slice A6 a0.data.length c7⟩ : LogC).C 27) :: ((ob25, blk (cs23 ++ r27) 30) :: B20))))))) ++ N))) (fun w m => by have h := Z107 (A := B114) m 0 1 rfl rfl; exact h) (fun w m => by have h := Z118 (B := ((some b13, blk (⟨a0.address, .slice A1 a0.topics.length c2, .slice A6 a0.data.length c7⟩ : LogC).C 27) :: ((ob25, blk (cs23 ++ r27) 30) :: B20))) (B' := (B114 ++ (((some b107), blk ((([.bool (x39.list), .slice A47 x39.data.length c48, .slice A50 x39.items.length c51] : List Value) ++ ([.bool (x62.list), .slice A70 x62.data.length c71, .slice A73 x62.items.length c74] : List Value) ++ ([.bool (x85.list), .slice A93 x85.data.length c94, .slice A96 x85.items.length c97] : List Value)) ++ []) 30) :: (B86 ++ (B63 ++ (B40 ++ ((some b13, blk (⟨a0.address, .slice A1 a0.topics.length c2, .slice A6 a0.data.length c7⟩ : LogC).C 27) :: ((ob25, blk (cs23 ++ r27) 30) :: B20)))))))) ((List.sublist_append_right _ _).trans ((List.sublist_append_right _ _).trans ((List.sublist_append_right _ _).trans ((List.sublist_cons_self _ _).trans (List.sublist_append_right _ _))))) (m.pick [0] 1 rfl rfl) 1 rfl; exact h) ?_
   have gq11 : ∀ w, More w0 Φ (B114 ++ (((some b107), blk ((([.bool (x39.list), .slice A47 x39.data.length c48, .slice A50 x39.items.length c51] : List Value) ++ ([.bool (x62.list), .slice A70 x62.data.length c71, .slice A73 x62.items.length c74] : List Value) ++ ([.bool (x85.list), .slice A93 x85.data.length c94, .slice A96 x85.items.length c97] : List Value)) ++ []) 30) :: (B86 ++ (B63 ++ (B40 ++ ((some b13, blk (⟨a0.address, .slice A1 a0.topics.length c2, .slice A6 a0.data.length c7⟩ : LogC).C 27) :: ((ob25, blk (cs23 ++ r27) 30) :: B20))))))) w → More w0 Φ (((some b107), blk ((([.bool (x39.list), .slice A47 x39.data.length c48, .slice A50 x39.items.length c51] : List Value) ++ ([.bool (x62.list), .slice A70 x62.data.length c71, .slice A73 x62.items.length c74] : List Value) ++ ([.bool (x85.list), .slice A93 x85.data.length c94, .slice A96 x85.items.length c97] : List Value)) ++ []) 30) :: (B86 ++ (B63 ++ (B40 ++ ((some b13, blk (⟨a0.address, .slice A1 a0.topics.length c2, .slice A6 a0.data.length c7⟩ : LogC).C 27) :: ((ob25, blk (cs23 ++ r27) 30) :: B20)))))) w := fun w q => More.mono (fun w m => (m).appR) q
   replace hH36 := hH36.mono gq11
   replace h10 := LogRd.mono gq11 _ _ h10
   replace v3 := v3.mono gq11
   replace h5 := h5.mono (Ar8Rd.mono gq11)
   replace v8 := v8.mono gq11
   replace v35 := v35.mono gq11
   replace h24 := h24.mono (ItRd.mono gq11)
   replace v37 := v37.mono gq11
   replace h56 := ItRd.mono gq11 _ _ h56
   replace v49 := v49.mono gq11
   replace v52 := v52.mono gq11
   replace h54 := h54.mono (ItRd.mono gq11)
   replace h79 := ItRd.mono gq11 _ _ h79
   replace v72 := v72.mono gq11
   replace v75 := v75.mono gq11
   replace h77 := h77.mono (ItRd.mono gq11)
   replace h102 := ItRd.mono gq11 _ _ h102
   replace v95 := v95.mono gq11
   replace v98 := v98.mono gq11
   replace h100 := h100.mono (ItRd.mono gq11)
   replace v111 := v111.mono gq11
   replace h110 := h110.mono (ItRd.mono gq11)
   replace h116 := ItRd.mono (Ψ := (More w0 Φ (B114 ++ (((some b107), blk ((([.bool (x39.list), .slice A47 x39.data.length c48, .slice A50 x39.items.length c51] : List Value) ++ ([.bool (x62.list), .slice A70 x62.data.length c71, .slice A73 x62.items.length c74] : List Value) ++ ([.bool (x85.list), .slice A93 x85.data.length c94, .slice A96 x85.items.length c97] : List Value)) ++ []) 30) :: (B86 ++ (B63 ++ (B40 ++ ((some b13, blk (⟨a0.address, .slice A1 a0.topics.length c2, .slice A6 a0.data.length c7⟩ : LogC).C 27) :: ((ob25, blk (cs23 ++ r27) 30) :: B20))))))))) (fun w q => Z117 q) _ _ h116
   have h130 := h116
   obtain ⟨A121, c122, A124, c125, cs127, e129, v123, v126, h128⟩ := ItRd.opn h116
   subst e129
   have m131 := v123.mx
   have m132 := v126.mx
   have m133 := v123.mx
   have m134 := v126.mx
   refine XWp.fin (by kernel_rfl) (fun b135 => ?_)
   refine XW.sv 11 rfl (by kernel_rfl) (Z104 rfl rfl rfl (by intro u hu; simp at hu; rcases hu with rfl | rfl | rfl <;> rfl) rfl rfl rfl) (fun w m => by have h := Z118 (B := ((some b13, blk (⟨a0.address, .slice A1 a0.topics.length c2, .slice A6 a0.data.length c7⟩ : LogC).C 27) :: ((ob25, blk (cs23 ++ r27) 30) :: B20))) (B' := (B114 ++ (((some b107), blk ((([.bool (x39.list), .slice A47 x39.data.length c48, .slice A50 x39.items.length c51] : List Value) ++ ([.bool (x62.list), .slice A70 x62.data.length c71, .slice A73 x62.items.length c74] : List Value) ++ ([.bool (x85.list), .slice A93 x85.data.length c94, .slice A96 x85.items.length c97] : List Value)) ++ []) 30) :: (B86 ++ (B63 ++ (B40 ++ ((some b13, blk (⟨a0.address, .slice A1 a0.topics.length c2, .slice A6 a0.data.length c7⟩ : LogC).C 27) :: ((ob25, blk (cs23 ++ r27) 30) :: B20)))))))) ((List.sublist_append_right _ _).trans ((List.sublist_append_right _ _).trans ((List.sublist_append_right _ _).trans ((List.sublist_cons_self _ _).trans (List.sublist_append_right _ _))))) (m.pick [1] 2 rfl rfl) 1 rfl; exact h) ?_
   refine XW.nil (by kernel_rfl) (Z1 (Z4 (Z4 (Z2 (Z0 (Z22 rfl Zh rfl rfl rfl rfl rfl) rfl ?_)))))
   obtain ⟨⟨x137, x138⟩, hx136, hf⟩ := Z100 hf
   try dsimp only at hf
   refine Z12 Try.call21 rfl (rlp_Size_does w0 (More w0 Φ (B114 ++ (((some b107), blk ((([.bool (x39.list), .slice A47 x39.data.length c48, .slice A50 x39.items.length c51] : List Value) ++ ([.bool (x62.list), .slice A70 x62.data.length c71, .slice A73 x62.items.length c74] : List Value) ++ ([.bool (x85.list), .slice A93 x85.data.length c94, .slice A96 x85.items.length c97] : List Value)) ++ []) 30) :: (B86 ++ (B63 ++ (B40 ++ ((some b13, blk (⟨a0.address, .slice A1 a0.topics.length c2, .slice A6 a0.data.length c7⟩ : LogC).C 27) :: ((ob25, blk (cs23 ++ r27) 30) :: B20)))))))) ((some b135, blk [.bool (x113.list), .slice A121 x113.data.length c122, .slice A124 x113.items.length c125] 30) :: (some b14, blk [.bool false, .slice none 0 0, .slice none 0 0] 30) :: ((B114 ++ (((some b107), blk ((([.bool (x39.list), .slice A47 x39.data.length c48, .slice A50 x39.items.length c51] : List Value) ++ ([.bool (x62.list), .slice A70 x62.data.length c71, .slice A73 x62.items.length c74] : List Value) ++ ([.bool (x85.list), .slice A93 x85.data.length c94, .slice A96 x85.items.length c97] : List Value)) ++ []) 30) :: (B86 ++ (B63 ++ (B40 ++ ((some b13, blk (⟨a0.address, .slice A1 a0.topics.length c2, .slice A6 a0.data.length c7⟩ : LogC).C 27) :: ((ob25, blk (cs23 ++ r27) 30) :: B20))))))) ++ N)) (fun w m => Z103 hΦ 2 m rfl) [.bool (x113.list), .slice A121 x113.data.length c122, .slice A124 x113.items.length c125] x113 x137 x138 h130 hx136) rfl rfl ?_
   rintro _ G141 ⟨b139, b140, rfl⟩
   refine Z20 (M' := ((some b135, blk [.bool (x113.list), .slice A121 x113.data.length c122, .slice A124 x113.items.length c125] 30) :: (some b14, blk [.bool false, .slice none 0 0, .slice none 0 0] 30) :: ((B114 ++ (((some b107), blk ((([.bool (x39.list), .slice A47 x39.data.length c48, .slice A50 x39.items.length c51] : List Value) ++ ([.bool (x62.list), .slice A70 x62.data.length c71, .slice A73 x62.items.length c74] : List Value) ++ ([.bool (x85.list), .slice A93 x85.data.length c94, .slice A96 x85.items.length c97] : List Value)) ++ []) 30) :: (B86 ++ (B63 ++ (B40 ++ ((some b13, blk (⟨a0.address, .slice A1 a0.topics.length c2, .slice A6 a0.data.length c7⟩ : LogC).C 27) :: ((ob25, blk (cs23 ++ r27) 30) :: B20))))))) ++ N))) (fun w m => m.appR) (Z0 (Z3 rfl) rfl (Z0 (Z17 rfl rfl) rfl (Z7 (.int .i64 ((x137 : Nat) : Int)) (rfl) (Z0 (Z17 rfl rfl) rfl (Z7 (.int .i64 ((x138 : Nat) : Int)) (rfl) (Z0 (Z5 rfl) rfl (Z0 (Z5 rfl) rfl ?_)))))))
   refine Z6 (Z1 (Z4 (Z2 (Z0 (Z3 rfl) rfl (Z0 (RV.neq rfl rfl) rfl (Z7 (.bool (!decide (x138 = 0))) (congrArg (fun b => Value.bool (!b)) (decide_eq_decide.2 (by omega))) (Z6 (Z1 ?_))))))))
   by_cases h143 : x138 = 0
   ·replace hf := if_t hf h143
    refine Z14 rfl (congrArg (fun b => !b) (decide_eq_true h143)) (CW.skip (Z1 (Z4 (Z2 (Z0 (Z22 rfl Zh rfl rfl rfl rfl rfl) rfl (OW.rot1 ?_))))))
    refine Z28 (Z104 rfl rfl rfl (by intro u hu; simp at hu; rcases hu with rfl | rfl | rfl <;> rfl) rfl rfl rfl) ?_
    refine Z0 (Z5 rfl) rfl (Z6 (Z1 (CW.ret ?_)))
    have er0 := Zi hf
    obtain ⟨e0, er1⟩ := Prod.mk.inj er0
    clear er0
    subst e0
    subst er1
    refine Z102 (rs := [.cell 2 30, .tmp 3]) ([.agg [.bool (x113.list), .slice A121 x113.data.length c122, .slice A124 x113.items.length c125].toArray, .int .i64 (0 : Int)]) ((B114 ++ (((some b107), blk ((([.bool (x39.list), .slice A47 x39.data.length c48, .slice A50 x39.items.length c51] : List Value) ++ ([.bool (x62.list), .slice A70 x62.data.length c71, .slice A73 x62.items.length c74] : List Value) ++ ([.bool (x85.list), .slice A93 x85.data.length c94, .slice A96 x85.items.length c97] : List Value)) ++ []) 30) :: (B86 ++ (B63 ++ (B40 ++ ((some b13, blk (⟨a0.address, .slice A1 a0.topics.length c2, .slice A6 a0.data.length c7⟩ : LogC).C 27) :: ((ob25, blk (cs23 ++ r27) 30) :: B20)))))))) rfl ?_ rfl ?_ ?_ _ (.inl rfl)
    ·exact ⟨⟨_, _, _, _, rfl, Zh, rfl, rfl, rfl, rfl⟩, rfl, trivial⟩
    ·exact ⟨o, _, hoi, hok, (by omega), by rw [← hc]; rfl, by rw [hB, List.append_assoc]⟩
    ·exact (fun w m => m.pick [] 2 rfl rfl)
   ·replace hf := if_f hf h143
    refine Z13 rfl (congrArg (fun b => !b) (decide_eq_false h143)) (Z4 (Z2 (Z0 (Z111 (l := [.bool false, .slice none 0 0, .slice none 0 0]) (cs := [.bool false, .slice none 0 0, .slice none 0 0]) [] rfl rfl rfl rfl rfl rfl rfl) rfl (Z0 (Z3 rfl) rfl (OW.rot1 ?_)))))
    refine Z28 (Z104 rfl rfl rfl (by intro u hu; simp at hu; rcases hu with rfl | rfl | rfl <;> rfl) rfl rfl rfl) ?_
    refine Z0 (Z5 rfl) rfl (Z6 (Z1 (CW.ret (Z8 ?_))))
    have er0 := Zi hf
    obtain ⟨e0, er1⟩ := Prod.mk.inj er0
    clear er0
    subst e0
    subst er1
    have v144 : View (More w0 Φ (B114 ++ (((some b107), blk ((([.bool (x39.list), .slice A47 x39.data.length c48, .slice A50 x39.items.length c51] : List Value) ++ ([.bool (x62.list), .slice A70 x62.data.length c71, .slice A73 x62.items.length c74] : List Value) ++ ([.bool (x85.list), .slice A93 x85.data.length c94, .slice A96 x85.items.length c97] : List Value)) ++ []) 30) :: (B86 ++ (B63 ++ (B40 ++ ((some b13, blk (⟨a0.address, .slice A1 a0.topics.length c2, .slice A6 a0.data.length c7⟩ : LogC).C 27) :: ((ob25, blk (cs23 ++ r27) 30) :: B20)))))))) none ([] : List (BitVec 8)).length 0 1 (u8s []) := View.nil
    have v145 : View (More w0 Φ (B114 ++ (((some b107), blk ((([.bool (x39.list), .slice A47 x39.data.length c48, .slice A50 x39.items.length c51] : List Value) ++ ([.bool (x62.list), .slice A70 x62.data.length c71, .slice A73 x62.items.length c74] : List Value) ++ ([.bool (x85.list), .slice A93 x85.data.length c94, .slice A96 x85.items.length c97] : List Value)) ++ []) 30) :: (B86 ++ (B63 ++ (B40 ++ ((some b13, blk (⟨a0.address, .slice A1 a0.topics.length c2, .slice A6 a0.data.length c7⟩ : LogC).C 27) :: ((ob25, blk (cs23 ++ r27) 30) :: B20)))))))) none ([] : List (It)).length 0 3 [] := View.nil
    refine Z102 (rs := [.cell 2 30, .tmp 3]) ([.agg [.bool false, .slice none 0 0, .slice none 0 0].toArray, .int .i64 ((x138 : Nat) : Int)]) (Ow.ents 30 (Ow.mk false none [] [] 0 none 0 [] []) ++ ((B114 ++ (((some b107), blk ((([.bool (x39.list), .slice A47 x39.data.length c48, .slice A50 x39.items.length c51] : List Value) ++ ([.bool (x62.list), .slice A70 x62.data.length c71, .slice A73 x62.items.length c74] : List Value) ++ ([.bool (x85.list), .slice A93 x85.data.length c94, .slice A96 x85.items.length c97] : List Value)) ++ []) 30) :: (B86 ++ (B63 ++ (B40 ++ ((some b13, blk (⟨a0.address, .slice A1 a0.topics.length c2, .slice A6 a0.data.length c7⟩ : LogC).C 27) :: ((ob25, blk (cs23 ++ r27) 30) :: B20))))))))) rfl ?_ rfl ?_ ?_ _ (.inl rfl)
    ·exact ⟨⟨_, _, _, _, rfl, Zh, rfl, rfl, rfl, rfl⟩, rfl, trivial⟩
    ·exact ⟨(Ow.mk false none [] [] 0 none 0 [] []), _, by rw [Ow.it, Ows.it], by rw [Ow.Ok]; exact ⟨OwnS.nil, OwnS.nil, trivial⟩, (by omega), rfl, rfl⟩
    ·exact (fun w m => by rw [Ow.ents, Ows.ents]; exact ((m.pick [] 2 rfl rfl).nil_ent _).nil_ent _)
  ·skip
   refine CW.block (CW.mem (M' := ((none, blk ([] ++ []) 30) :: (some b14, blk [.bool false, .slice none 0 0, .slice none 0 0] 30) :: (some b13, blk (⟨a0.address, .slice A1 a0.topics.length c2, .slice A6 a0.data.length c7⟩ : LogC).C 27) :: ([] ++ N))) (fun w m => m.nil_ent _) (Z114 (fun k L' M' => ∃ l148 : List (It), ∃ n155 : Nat, ∃ B146 : List Ent, ∃ cs149 : List Value, ∃ ob151 : Option Nat, ∃ c152 : Nat, ∃ r153 : List Value, (receipt_LogItem.l1 a0 k l148 n155) = some q18 ∧ (∀ w, Mem w0 w B146 → Mem w0 w []) ∧ (Reps (ItRd (More w0 Φ B146)) cs149 l148) ∧ (OwnS ob151 l148.length c152 3 cs149 r153) ∧ (n155 ≤ 9223372036854775807) ∧ L' = [(1, ptr (some b13) 0), (2, ptr (some b14) 0), (4, sl ob151 0 l148.length c152), (16, .slice A1 a0.topics.length c2), (17, .int .i64 ((a0.topics.length : Nat) : Int)), (18, .int .i64 ((n155 : Nat) : Int))] ∧ M' = ((ob151, blk (cs149 ++ r153) 30) :: (some b14, blk [.bool false, .slice none 0 0, .slice none 0 0] 30) :: (some b13, blk (⟨a0.address, .slice A1 a0.topics.length c2, .slice A6 a0.data.length c7⟩ : LogC).C 27) :: (B146 ++ N))) (k0 := (a0.topics.length - 0 + 2)) ⟨([] : List (It)), 0, [], [], none, 0, [], hq19, (fun w m => m), Reps.nil, OwnS.nil, (by omega), rfl, rfl⟩ ⟨rfl, rfl, rfl, rfl, rfl, rfl, trivial⟩ (fun w m => m.pick [0, 1, 2] 3 rfl rfl) ?_))
   clear hq19
   rintro k157 L160 M161 ⟨l148, n155, B146, cs149, ob151, c152, r153, hl158, hB147, h150, o154, b156, e162, e163⟩
   rw [e162, e163]
   clear e162 e163 L160 M161
   rcases k157 with _ | k157
   ·rw [receipt_LogItem.l1] at hl158; cases hl158
   rw [receipt_LogItem.l1] at hl158
   have gq12 : ∀ w, More w0 Φ B146 w → More w0 Φ [] w := fun w q => More.mono (fun w m => hB147 w (m)) q
   replace v3 := v3.mono gq12
   replace h5 := h5.mono (Ar8Rd.mono gq12)
   replace h10 := LogRd.mono gq12 _ _ h10
   replace v8 := v8.mono gq12
   have m164 := o154.mx
   refine Z4 (Z2 (Z0 (RV.lss rfl rfl) rfl (Z7 (.bool (decide (n155 < a0.topics.length))) (congrArg Value.bool (decide_eq_decide.2 (by omega))) (Z6 (Z1 (Z4 ?_))))))
   by_cases h165 : n155 < a0.topics.length
   ·replace hl158 := if_t hl158 h165
    refine Z13 rfl (decide_eq_true h165) (CW.skip (Z1 (Z4 (CW.block (Z4 (Z2 ?_))))))
    obtain ⟨x166, hx167, hl158⟩ := Z100 hl158
    have hl168 := Z113 hx167
    refine Z0 (Z105 (n155) rfl rfl rfl rfl rfl (v3.isSome (by decide) hl168) (by omega)) rfl ?_
    obtain ⟨cs169, h170, h171⟩ := h5.get Ar8Rd.len hx167
    have h170a := h170
    subst h170a
    refine Z0 (Z110 rfl rfl rfl rfl (fun w m => v3.load (Z103 hΦ 3 m rfl) h171) ((Z101 _).trans Zv)) rfl (OW.alloc (l := (u8s (Vector.replicate 32 0#8).toList)) rfl (by rw [Vector.toList_replicate, ← Z135]; rfl) rfl (fun b172 => (Z28 (Z104 rfl rfl rfl (Z125 _) rfl ((Z101 _).trans Zv) ((Z101 _).trans Zv)) (Z6 (Z1 (Z2 (Z0 (Z3 rfl) rfl (Z20 (M' := (ob151, blk (cs149 ++ r153) 30) :: (some b14, blk [.bool false, .slice none 0 0, .slice none 0 0] 30) :: (some b13, blk (⟨a0.address, .slice A1 a0.topics.length c2, .slice A6 a0.data.length c7⟩ : LogC).C 27) :: (((some b172, blk (u8s x166.toList) 51) :: B146) ++ N)) (fun w m => m.pick [1, 2, 3, 0] 4 rfl rfl) ?_))))))))
    have gq13 : ∀ w, More w0 Φ ((some b172, blk (u8s x166.toList) 51) :: B146) w → More w0 Φ B146 w := fun w q => More.mono (fun w m => (m).tail) q
    replace v3 := v3.mono gq13
    replace h5 := h5.mono (Ar8Rd.mono gq13)
    replace h150 := h150.mono (ItRd.mono gq13)
    replace h10 := LogRd.mono gq13 _ _ h10
    replace v8 := v8.mono gq13
    have v173 : View (More w0 Φ ((some b172, blk (u8s x166.toList) 51) :: B146)) (some ⟨b172, 0, none⟩) x166.toList.length 32 1 (u8s x166.toList) := View.arr (w0 := w0) (te := 51) (fun w q => q.2.sublist (List.singleton_sublist.2 (List.mem_cons_self ..))) (by decide)
    refine Z0 (RV.arr_all rfl rfl rfl) rfl ?_
    refine Z7 (.slice (some ⟨b172, 0, none⟩) x166.toList.length 32) (by rw [Zv]; try rfl) ?_
    have v174 := v173
    have m175 := v174.mx
    obtain ⟨x177, hx176, hl158⟩ := Z100 hl158
    refine Z12 Try.call19 rfl (Z140 w0 (More w0 Φ ((some b172, blk (u8s x166.toList) 51) :: B146)) ((ob151, blk (cs149 ++ r153) 30) :: (some b14, blk [.bool false, .slice none 0 0, .slice none 0 0] 30) :: (some b13, blk (⟨a0.address, .slice A1 a0.topics.length c2, .slice A6 a0.data.length c7⟩ : LogC).C 27) :: (((some b172, blk (u8s x166.toList) 51) :: B146) ++ N)) (fun w m => Z103 hΦ 3 m rfl) (some ⟨b172, 0, none⟩) 32 x166.toList x177 v174 hx176) rfl rfl ?_
    rintro L181 M182 ⟨B178, cs179, h180, e183, e184⟩
    rw [e183, e184]
    clear e183 e184 L181 M182
    refine Z20 (M' := ((ob151, blk (cs149 ++ r153) 30) :: (some b14, blk [.bool false, .slice none 0 0, .slice none 0 0] 30) :: (some b13, blk (⟨a0.address, .slice A1 a0.topics.length c2, .slice A6 a0.data.length c7⟩ : LogC).C 27) :: ((B178 ++ ((some b172, blk (u8s x166.toList) 51) :: B146)) ++ N))) (fun w m => by have h := Z107 (A := B178) m 0 3 rfl rfl; exact h) ?_
    have gq14 : ∀ w, More w0 Φ (B178 ++ ((some b172, blk (u8s x166.toList) 51) :: B146)) w → More w0 Φ ((some b172, blk (u8s x166.toList) 51) :: B146) w := fun w q => More.mono (fun w m => (m).appR) q
    replace v3 := v3.mono gq14
    replace h5 := h5.mono (Ar8Rd.mono gq14)
    replace h150 := h150.mono (ItRd.mono gq14)
    replace v174 := v174.mono gq14
    replace h10 := LogRd.mono gq14 _ _ h10
    replace v8 := v8.mono gq14
    replace h180 := ItRd.mono (Ψ := (More w0 Φ (B178 ++ ((some b172, blk (u8s x166.toList) 51) :: B146)))) (fun w q => Z117 q) _ _ h180
    have h194 := h180
    obtain ⟨A185, c186, A188, c189, cs191, e193, v187, v190, h192⟩ := ItRd.opn h180
    subst e193
    have m195 := v187.mx
    have m196 := v190.mx
    have m197 := v187.mx
    have m198 := v190.mx
    refine OW.ofN (NV.bsA rfl rfl (by intro x hx; simp at hx; subst hx; exact rfl) rfl rfl rfl (by decide) (by decide) rfl) rfl (fun b199 => ?_)
    have h202 : Reps (ItRd (More w0 Φ (B178 ++ ((some b172, blk (u8s x166.toList) 51) :: B146)))) (([.bool (x177.list), .slice A185 x177.data.length c186, .slice A188 x177.items.length c189] : List Value)) [x177] := Reps.one h194
    refine Z20 (M' := (((some b199), blk ((([.bool (x177.list), .slice A185 x177.data.length c186, .slice A188 x177.items.length c189] : List Value)) ++ []) 30) :: (ob151, blk (cs149 ++ r153) 30) :: (some b14, blk [.bool false, .slice none 0 0, .slice none 0 0] 30) :: (some b13, blk (⟨a0.address, .slice A1 a0.topics.length c2, .slice A6 a0.data.length c7⟩ : LogC).C 27) :: ((B178 ++ ((some b172, blk (u8s x166.toList) 51) :: B146)) ++ N))) (fun w m => m) ?_
    have o200 : OwnS (some b199) ([x177] : List (It)).length 1 3 (([.bool (x177.list), .slice A185 x177.data.length c186, .slice A188 x177.items.length c189] : List Value)) [] := ⟨by simp [ItRd], by simp [ItRd], (fun h => nomatch h), by simp⟩
    have mx_o200 := o200.mx
    refine Z7 (sl (some b199) 0 ([x177] : List (It)).length 1) (rfl) (OW.rot1 ?_)
    obtain ⟨g203, hl158⟩ := Z116 hl158
    have h208 := h150.app h202
    refine OW.appendOwn (s := 3) rfl rfl rfl rfl rfl rfl o154 (fun w m => m.rd0 (List.Mem.tail _ Zh) (fun e => o200.nilc (by decide) e)) o200.n (h202.cell1 ItRd.one) (o200.zeroO (by decide)) (by decide) (by decide) (by first | omega | (simp only [i30, List.length_nil]; omega)) rfl rfl ((l148 ++ ([x177] : List (It))).length) (cs149 ++ (([.bool (x177.list), .slice A185 x177.data.length c186, .slice A188 x177.items.length c189] : List Value))) (List.length_append ..).symm rfl (fun ob204 r205 c206 o207 => ?_)
    have m209 := o207.mx
    refine Z0 (Z5 rfl) rfl (Z6 (Z27 (Z1 (Z2 (Z0 (RV.add rfl rfl (by omega)) rfl (Z7 (.int .i64 (((n155 + 1) : Nat) : Int)) (by first | rfl | (congr 1) | (congr 1; omega)) (Z0 (Z3 rfl) rfl (Z6 ?_))))))))
    exact Z109 (k' := k157) (Nat.lt_succ_self _) ⟨(l148 ++ ([x177] : List (It))), (n155 + 1), (B178 ++ ((some b172, blk (u8s x166.toList) 51) :: B146)), (cs149 ++ (([.bool (x177.list), .slice A185 x177.data.length c186, .slice A188 x177.items.length c189] : List Value))), ob204, c206, r205, hl158, (fun w m => hB147 w (((m).appR).tail)), h208, o207, (by omega), rfl, rfl⟩ ⟨rfl, rfl, rfl, rfl, rfl, rfl, trivial⟩ (fun w m => m.pick [0, 2, 3] 4 rfl rfl)
   ·replace hl158 := if_f hl158 h165
    refine Z14 rfl (decide_eq_false h165) (CW.exit (Z9 (Z9 (Z15 ?_))))
    exact QW.join ⟨l148, B146, cs149, ob151, c152, r153, (Zi hl158).symm, (fun w m => hB147 w (m)), h150, o154, rfl, rfl⟩ ⟨rfl, rfl, rfl, trivial⟩ (fun w m => m.pick [0, 1, 2] 3 rfl rfl)
theorem waybilllaw17_ReceiptLogs_does (w0 : World) (Φ : Ctx) (N : List Ent) (hΦ : ∀ w, Mem w0 w N → Φ w) (cs0 : List Value) (l : Log) (cs1 : List Value) (item : It) (hl0 : LogRd Φ cs0 l) (hi0 : ItRd Φ cs1 item) (b : Bool) (hb : waybillref07_Beyond item = some b) (hbw : b = false → item.wt ≤ 2147483647) (x : It) (e : Nat) (p1 : receipt_LogItem l = some (x, e)) (p2 : waybillref17_LogItem l = some (x, e)) (hxw : x.wt ≤ 2147483647) (htw : waybilllaw17_twin [l] = some [l]) (hstill : waybilllaw17_stillLogs [l] [l] = some true) (hst : ∀ d : List (BitVec 8), waybilllaw17_still d d = some true)
  (hpar : b = false → ∃ (y : Log) (ey : Nat), receipt_ParseLog item = some (y, (ey : Int)) ∧ waybillref17_ParseLog item = some (y, ey) ∧ y.topics.length ≤ 4 ∧ y.data.length ≤ 2147483647) :
  DoesG Try.prog 3 [.agg cs0.toArray, .agg cs1.toArray] w0 [] N (fun v G => v = .bool true) := by
 have hlen0 := LogRd.len _ _ hl0
 have hlen1 := ItRd.len _ _ hi0
 refine DoesG.enter Try.func3 rfl Try.ntmps3 rfl (M := N) rfl (Z4 (Z2 (OW.boxA rfl rfl (fun b2 => (OW.boxA rfl rfl (fun b3 => (Z0 (Z5 rfl) rfl (Z6 ?_))))))))
 (refine Z1 ?_; refine Z4 ?_; refine Z4 ?_)
 refine Z2 (Z0 (Z22 rfl Zh rfl rfl rfl rfl hlen1) rfl ?_)
 refine Z12 Try.call4 rfl (waybillref07_Beyond_does w0 Φ ((some b3, blk cs1 30) :: (some b2, blk cs0 27) :: N) (fun w m => hΦ w (m.drop 2)) cs1 item b hi0 hb) rfl rfl ?_; rintro _ G1 rfl; refine Z20 (M' := (some b3, blk cs1 30) :: (some b2, blk cs0 27) :: N) (fun w m => m.appR) ?_
 refine Z6 (Z1 ?_)
 cases b with
 | true =>
  refine Z13 rfl rfl (Z4 (Z2 (Z0 (Z5 rfl) rfl (Z6 ?_))))
  (refine Z1 ?_; refine CW.ret ?_; refine Z8 ?_)
  refine Z102 (P := Try.prog) (fn := Try.f3) (R := fun v G => v = .bool true) (N := N) (rs := [.tmp 4]) [.bool true] [] rfl ?_ rfl ?_ ?_ _ (.inl rfl)
  ·exact ⟨rfl, trivial⟩
  ·exact rfl
  ·exact (fun w m => m.drop 2)
 | false =>
 have hwt := hbw rfl
 obtain ⟨y, ey, q1, q2, hyt, hyd⟩ := hpar rfl
 refine Z14 rfl rfl ?_
 (refine CW.skip ?_; refine Z1 ?_; refine Z4 ?_)
 refine Z2 (Z0 (Z22 rfl (List.Mem.tail _ Zh) rfl rfl rfl rfl hlen0) rfl ?_)
 refine OW.ofN (NV.bsA rfl rfl (by intro x hx; simp at hx; subst hx; exact hlen0) rfl rfl rfl (by decide) (by decide) rfl) rfl (fun bs => ?_); refine OW.cells cs0 (by simp) ?_; have hob : OwnS (some bs) 1 1 22 cs0 [] := ⟨by omega, by simp; omega, (fun h => nomatch h), by omega⟩
 refine Z12 Try.call5 rfl (waybilllaw17_twin_does w0 (More w0 Φ [(some bs, blk cs0 27)]) ((some bs, blk cs0 27) :: (some b3, blk cs1 30) :: (some b2, blk cs0 27) :: N) (fun w m => ⟨hΦ w (m.drop 3), m.sublist (List.singleton_sublist.2 (List.mem_cons_self ..))⟩) (some ⟨bs, 0, none⟩) 1 cs0 [l] [l] (hob.view (te := 27) (by decide) (fun w q => by rw [List.append_nil]; exact q.2)) (Reps.one (LogRd.mono (fun w q => q.1) _ _ hl0)) htw) rfl rfl ?_; rintro _ BB ⟨B, A1, k1, hLR, rfl, hB⟩; rw [hB]; clear hB BB; refine Z20 (M' := (some b3, blk cs1 30) :: (some b2, blk cs0 27) :: (B ++ ((some bs, blk cs0 27) :: N))) (fun w m => m.chunk [B, [(some bs, blk cs0 27)], [(some b3, blk cs1 30)], [(some b2, blk cs0 27)], N] [2, 3, 0, 1, 4] rfl (by simp) (by simp)) ?_
 refine Z0 (Z5 rfl) rfl (Z6 ?_)
 (refine Z1 ?_; refine Z4 ?_)
 have hΨ : ∀ w, Mem w0 w (B ++ ((some bs, blk cs0 27) :: N)) → More w0 (More w0 Φ [(some bs, blk cs0 27)]) B w := fun w m => ⟨⟨hΦ w m.appR.tail, m.appR.sublist (List.singleton_sublist.2 (List.mem_cons_self ..))⟩, m.appL⟩
 have hN1N : ∀ w, Mem w0 w (B ++ ((some bs, blk cs0 27) :: N)) → Mem w0 w N := fun w m => m.appR.tail
 generalize hN1 : B ++ ((some bs, blk cs0 27) :: N) = N1 at hΨ hN1N ⊢
 have hl : LogRd (More w0 (More w0 Φ [(some bs, blk cs0 27)]) B) cs0 l := LogRd.mono (fun w q => q.1.1) _ _ hl0
 have hi : ItRd (More w0 (More w0 Φ [(some bs, blk cs0 27)]) B) cs1 item := ItRd.mono (fun w q => q.1.1) _ _ hi0
 generalize hΨ1 : More w0 (More w0 Φ [(some bs, blk cs0 27)]) B = Ψ at *
 obtain ⟨csx, vb, v1, r0⟩ := hLR.opn
 have rl := r0.mono LmRd.log
 obtain ⟨csl, hll, hcsl⟩ := rl.get LogRd.len (i := 0) (x := l) rfl
 have hcl := LogRd.len _ _ hll
 refine Z2 (Z0 (Z3 rfl) rfl (Z0 (Z105 0 rfl rfl rfl rfl rfl (v1.isSome (by decide) (i := 0) (by simp)) (by simp)) rfl (Z0 (Z110 rfl rfl rfl rfl (fun w m => v1.load (hΨ w (m.drop 2)) hcsl) hcl) rfl ?_)))
 refine Z12 Try.call6 rfl (receipt_LogItem_own w0 Ψ ((some b3, blk cs1 30) :: (some b2, blk cs0 27) :: N1) (fun w m => hΨ w (m.drop 2)) csl l x e hll p1) rfl rfl ?_; rintro _ _ ⟨o, B4, hox, hok, heb, rfl, rfl⟩; subst hox; refine Z20 (M' := (some b3, blk cs1 30) :: (some b2, blk cs0 27) :: ((o.ents 30) ++ N1)) (fun w m => m.chunk [(o.ents 30), B4, [(some b3, blk cs1 30)], [(some b2, blk cs0 27)], N1] [2, 3, 0, 4] rfl (by simp) (by simp)) ?_
 refine Z0 (Z3 rfl) rfl (Z0 (Z17 rfl rfl) rfl (Z0 (Z17 rfl rfl) rfl (OW.alloc (l := [.bool false, .slice none 0 0, .slice none 0 0]) rfl rfl rfl (fun b6 => (Z28 (Z104 rfl rfl rfl (Ow.cs_one o) rfl rfl o.cs_length) (Z0 (Z5 rfl) rfl (Z6 ?_)))))))
 (refine Z1 ?_; refine Z4 ?_)
 refine Z2 (Z0 (Z3 rfl) rfl (Z0 (Z105 0 rfl rfl rfl rfl rfl (v1.isSome (by decide) (i := 0) (by simp)) (by simp)) rfl (Z0 (Z110 rfl rfl rfl rfl (fun w m => v1.load (hΨ w (m.drop 3).appR) hcsl) hcl) rfl ?_)))
 refine Z12 Try.call6 rfl (receipt_LogItem_does w0 Ψ ((some b6, blk o.cs 30) :: (some b3, blk cs1 30) :: (some b2, blk cs0 27) :: ((o.ents 30) ++ N1)) (fun w m => hΨ w (m.drop 3).appR) csl l o.it e hll p1) rfl rfl ?_; rintro _ B8 ⟨_, cr8, hcr8, _, rfl, rfl⟩; have hc8 := ItRd.len _ _ hcr8; refine Z20 (M' := (some b6, blk o.cs 30) :: (some b3, blk cs1 30) :: (some b2, blk cs0 27) :: ((o.ents 30) ++ (B8 ++ N1))) (fun w m => m.chunk [B8, [(some b6, blk o.cs 30)], [(some b3, blk cs1 30)], [(some b2, blk cs0 27)], (o.ents 30), N1] [1, 2, 3, 4, 0, 5] rfl (by simp) (by simp)) ?_
 refine Z0 (Z3 rfl) rfl (Z0 (Z17 rfl rfl) rfl (Z0 (Z17 rfl rfl) rfl (OW.alloc (l := [.bool false, .slice none 0 0, .slice none 0 0]) rfl rfl rfl (fun b8 => (Z28 (Z104 rfl rfl rfl (ItRd.one _ _ hcr8) rfl rfl hc8) (Z0 (Z5 rfl) rfl (Z6 ?_)))))))
 (refine Z1 ?_; refine Z4 ?_)
 refine Z2 (Z0 (Z22 rfl (List.Mem.tail _ (List.Mem.tail _ (List.Mem.tail _ Zh))) rfl rfl rfl rfl hlen0) rfl ?_)
 refine Z12 Try.call7 rfl (waybillref17_LogItem_does w0 Ψ ((some b8, blk cr8 30) :: (some b6, blk o.cs 30) :: (some b3, blk cs1 30) :: (some b2, blk cs0 27) :: ((o.ents 30) ++ (B8 ++ N1))) (fun w m => hΨ w (m.drop 4).appR.appR) cs0 l o.it e hl p2) rfl rfl ?_; rintro _ B10 ⟨_, cr10, hcr10, _, rfl, rfl⟩; have hc10 := ItRd.len _ _ hcr10; refine Z20 (M' := (some b8, blk cr8 30) :: (some b6, blk o.cs 30) :: (some b3, blk cs1 30) :: (some b2, blk cs0 27) :: ((o.ents 30) ++ (B10 ++ (B8 ++ N1)))) (fun w m => m.chunk [B10, [(some b8, blk cr8 30)], [(some b6, blk o.cs 30)], [(some b3, blk cs1 30)], [(some b2, blk cs0 27)], (o.ents 30), B8, N1] [1, 2, 3, 4, 5, 0, 6, 7] rfl (by simp) (by simp)) ?_
 refine Z0 (Z3 rfl) rfl (Z0 (Z17 rfl rfl) rfl (Z0 (Z17 rfl rfl) rfl (OW.alloc (l := [.bool false, .slice none 0 0, .slice none 0 0]) rfl rfl rfl (fun b10 => (Z28 (Z104 rfl rfl rfl (ItRd.one _ _ hcr10) rfl rfl hc10) (Z0 (Z5 rfl) rfl (Z6 ?_)))))))
 (refine Z1 ?_; refine Z4 ?_; refine Z4 ?_)
 have hK7 : ∀ w, Mem w0 w ((o.ents 30) ++ (B10 ++ (B8 ++ N1))) → (Ψ w ∧ Mem w0 w ((o.ents 30) ++ (B10 ++ B8))) := fun w m => ⟨hΨ w m.appR.appR.appR, m.chunk [(o.ents 30), B10, B8, N1] [0, 1, 2] rfl (by simp) (by simp)⟩
 have hoR : ItRd (fun w => Ψ w ∧ Mem w0 w ((o.ents 30) ++ (B10 ++ B8))) o.cs o.it := Ow.rd (w0 := w0) (t := 30) o hok (fun w q => q.2.appL)
 have hwR : ItRd (fun w => Ψ w ∧ Mem w0 w ((o.ents 30) ++ (B10 ++ B8))) cr10 o.it := ItRd.mono (fun w q => ⟨q.1, q.2.appR.appL⟩) _ _ hcr10
 have hsm : waybillref07_Same o.it o.it = some true := Same_refl o.it
 refine Z2 (Z0 (Z22 rfl (List.Mem.tail _ (List.Mem.tail _ Zh)) rfl rfl rfl rfl o.cs_length) rfl (Z0 (Z22 rfl Zh rfl rfl rfl rfl hc10) rfl ?_))
 refine Z12 Try.call8 rfl (waybillref07_Same_does w0 _ ((some b10, blk cr10 30) :: (some b8, blk cr8 30) :: (some b6, blk o.cs 30) :: (some b3, blk cs1 30) :: (some b2, blk cs0 27) :: ((o.ents 30) ++ (B10 ++ (B8 ++ N1)))) (fun w m => hK7 w (m.drop 5)) _ o.it _ o.it true hoR hwR hsm) rfl rfl ?_; rintro _ G1 rfl; refine Z20 (M' := (some b10, blk cr10 30) :: (some b8, blk cr8 30) :: (some b6, blk o.cs 30) :: (some b3, blk cs1 30) :: (some b2, blk cs0 27) :: ((o.ents 30) ++ (B10 ++ (B8 ++ N1)))) (fun w m => m.appR) ?_
 refine Z0 (RV.not rfl) rfl (Z0 (Z3 rfl) rfl ?_)
 refine Z24 rfl ?_; refine Z0 (Z3 rfl) rfl ?_
 refine Z24 rfl ?_; refine Z12 Try.call9 rfl (waybilllaw17_num_does w0 (fun _ => True) ((some b10, blk cr10 30) :: (some b8, blk cr8 30) :: (some b6, blk o.cs 30) :: (some b3, blk cs1 30) :: (some b2, blk cs0 27) :: ((o.ents 30) ++ (B10 ++ (B8 ++ N1)))) (fun _ _ => trivial) (e : Int) (e : Int) (by omega) rfl) rfl rfl ?_; rintro _ G1 ⟨_, rfl⟩; refine Z20 (M' := (some b10, blk cr10 30) :: (some b8, blk cr8 30) :: (some b6, blk o.cs 30) :: (some b3, blk cs1 30) :: (some b2, blk cs0 27) :: ((o.ents 30) ++ (B10 ++ (B8 ++ N1)))) (fun w m => m.appR) ?_
 refine Z24 rfl ?_; refine Z0 (Z3 rfl) rfl ?_
 refine Z24 rfl ?_; refine Z0 (RV.neq_f rfl rfl rfl) rfl ?_
 refine Z0 (Z108 rfl rfl rfl) rfl (Z6 (Z1 (Z14 rfl rfl ?_)))
 (refine CW.skip ?_; refine Z1 ?_; refine Z4 ?_)
 refine Z2 (Z0 (Z22 rfl (List.Mem.tail _ (List.Mem.tail _ Zh)) rfl rfl rfl rfl o.cs_length) rfl ?_)
 refine Z20 (M' := (o.ents 30) ++ ((some b10, blk cr10 30) :: (some b8, blk cr8 30) :: (some b6, blk o.cs 30) :: (some b3, blk cs1 30) :: (some b2, blk cs0 27) :: (B10 ++ (B8 ++ N1)))) (fun w m => m.chunk [(some b10, blk cr10 30) :: (some b8, blk cr8 30) :: (some b6, blk o.cs 30) :: (some b3, blk cs1 30) :: [(some b2, blk cs0 27)], (o.ents 30), B10 ++ (B8 ++ N1)] [1, 0, 2] rfl (by simp) (by simp)) ?_; refine Z12 Try.call10 rfl (waybilllaw17_spoilItem_does w0 o ((some b10, blk cr10 30) :: (some b8, blk cr8 30) :: (some b6, blk o.cs 30) :: (some b3, blk cs1 30) :: (some b2, blk cs0 27) :: (B10 ++ (B8 ++ N1))) hxw hok) rfl rfl ?_; rintro _ _ ⟨rfl, rfl⟩; refine Z20 (M' := (some b10, blk cr10 30) :: (some b8, blk cr8 30) :: (some b6, blk o.cs 30) :: (some b3, blk cs1 30) :: (some b2, blk cs0 27) :: (B10 ++ (B8 ++ N1))) (fun w m => m) ?_
 refine Z6 ?_
 (refine Z1 ?_; refine Z4 ?_; refine Z4 ?_)
 have hK10 : ∀ w, Mem w0 w (B10 ++ (B8 ++ N1)) → (Ψ w ∧ Mem w0 w (B10 ++ B8)) := fun w m => ⟨hΨ w m.appR.appR, m.chunk [B10, B8, N1] [0, 1] rfl (by simp) (by simp)⟩
 have h8R : ItRd (fun w => Ψ w ∧ Mem w0 w (B10 ++ B8)) cr8 o.it := ItRd.mono (fun w q => ⟨q.1, q.2.appR⟩) _ _ hcr8
 have h10R : ItRd (fun w => Ψ w ∧ Mem w0 w (B10 ++ B8)) cr10 o.it := ItRd.mono (fun w q => ⟨q.1, q.2.appL⟩) _ _ hcr10
 refine Z2 (Z0 (Z22 rfl (List.Mem.tail _ Zh) rfl rfl rfl rfl hc8) rfl (Z0 (Z22 rfl Zh rfl rfl rfl rfl hc10) rfl ?_))
 refine Z12 Try.call8 rfl (waybillref07_Same_does w0 _ ((some b10, blk cr10 30) :: (some b8, blk cr8 30) :: (some b6, blk o.cs 30) :: (some b3, blk cs1 30) :: (some b2, blk cs0 27) :: (B10 ++ (B8 ++ N1))) (fun w m => hK10 w (m.drop 5)) _ o.it _ o.it true h8R h10R hsm) rfl rfl ?_; rintro _ G1 rfl; refine Z20 (M' := (some b10, blk cr10 30) :: (some b8, blk cr8 30) :: (some b6, blk o.cs 30) :: (some b3, blk cs1 30) :: (some b2, blk cs0 27) :: (B10 ++ (B8 ++ N1))) (fun w m => m.appR) ?_
 refine Z0 (RV.not rfl) rfl (Z0 (Z3 rfl) rfl ?_)
 refine Z24 rfl ?_; refine Z0 (Z3 rfl) rfl ?_
 refine Z24 rfl ?_; refine Z0 (Z22 rfl (List.Mem.tail _ (List.Mem.tail _ (List.Mem.tail _ (List.Mem.tail _ Zh)))) rfl rfl rfl rfl hlen0) rfl ?_
 refine Z24 rfl ?_; refine OW.ofN (NV.bsA rfl rfl (by intro x hx; simp at hx; subst hx; exact hlen0) rfl rfl rfl (by decide) (by decide) rfl) rfl (fun bs2 => ?_); refine OW.cells cs0 (by simp) ?_; have hob2 : OwnS (some bs2) 1 1 22 cs0 [] := ⟨by omega, by simp; omega, (fun h => nomatch h), by omega⟩
 refine Z24 rfl ?_; refine Z12 Try.call11 rfl (waybilllaw17_stillLogs_does w0 (More w0 Ψ [(some bs2, blk cs0 27)]) ((some bs2, blk cs0 27) :: (some b10, blk cr10 30) :: (some b8, blk cr8 30) :: (some b6, blk o.cs 30) :: (some b3, blk cs1 30) :: (some b2, blk cs0 27) :: (B10 ++ (B8 ++ N1))) (fun w m => ⟨hΨ w (m.drop 6).appR.appR, m.sublist (List.singleton_sublist.2 (List.mem_cons_self ..))⟩) A1 k1 [l] (some ⟨bs2, 0, none⟩) 1 cs0 [l] true (hLR.mono (fun w q => q.1)) (hob2.view (te := 27) (by decide) (fun w q => by rw [List.append_nil]; exact q.2)) (Reps.one (LogRd.mono (fun w q => q.1) _ _ hl)) hstill) rfl rfl ?_; rintro _ G1 rfl; refine Z20 (M' := (some b10, blk cr10 30) :: (some b8, blk cr8 30) :: (some b6, blk o.cs 30) :: (some b3, blk cs1 30) :: (some b2, blk cs0 27) :: (B10 ++ (B8 ++ N1))) (fun w m => m.appR.tail) ?_
 refine Z24 rfl ?_; refine Z0 (RV.not rfl) rfl ?_
 refine Z0 (Z108 rfl rfl rfl) rfl (Z6 (Z1 (Z14 rfl rfl ?_)))
 (refine CW.skip ?_; refine Z1 ?_; refine Z4 ?_)
 refine Z2 (Z0 (Z22 rfl (List.Mem.tail _ (List.Mem.tail _ (List.Mem.tail _ Zh))) rfl rfl rfl rfl hlen1) rfl ?_)
 refine Z12 Try.call12 rfl (waybilllaw17_lentItem_rec w0 (item.sz + 1) Ψ ((some b10, blk cr10 30) :: (some b8, blk cr8 30) :: (some b6, blk o.cs 30) :: (some b3, blk cs1 30) :: (some b2, blk cs0 27) :: (B10 ++ (B8 ++ N1))) (fun w m => hΨ w (m.drop 5).appR.appR) cs1 item (Nat.lt_succ_self _) hwt hi) rfl rfl ?_; rintro _ B12 ⟨_, cr12, hcr12, rfl, rfl⟩; have hc12 := LtRd.len _ _ hcr12; refine Z20 (M' := (some b3, blk cs1 30) :: (some b2, blk cs0 27) :: (B12 ++ N1)) (fun w m => m.chunk [B12, (some b10, blk cr10 30) :: (some b8, blk cr8 30) :: [(some b6, blk o.cs 30)], [(some b3, blk cs1 30)], [(some b2, blk cs0 27)], B10, B8, N1] [2, 3, 0, 6] rfl (by simp) (by simp)) ?_
 refine OW.alloc (l := [.bool false, .slice none 0 0, .slice none 0 0]) rfl rfl rfl (fun b12 => (Z28 (Z104 rfl rfl rfl (LtRd.one _ _ hcr12) rfl rfl hc12) (Z6 ?_)))
 (refine Z1 ?_; refine Z4 ?_)
 have hK12 : ∀ w, Mem w0 w (B12 ++ N1) → More w0 Ψ B12 w := fun w m => ⟨hΨ w m.appR, m.appL⟩
 have hit := LtRd.it _ _ hcr12
 refine Z2 (Z0 (Z22 rfl Zh rfl rfl rfl rfl hc12) rfl ?_)
 refine Z12 Try.call13 rfl (receipt_ParseLog_own w0 (More w0 Ψ B12) ((some b12, blk cr12 30) :: (some b3, blk cs1 30) :: (some b2, blk cs0 27) :: (B12 ++ N1)) (fun w m => hK12 w (m.drop 3)) cr12 item y (ey : Int) hit q1) rfl rfl ?_; rintro _ _ ⟨g1, B13, hok1, hv1, heb1, rfl, rfl⟩; refine Z20 (M' := (some b12, blk cr12 30) :: (some b3, blk cs1 30) :: (some b2, blk cs0 27) :: ((g1.ents 51 5) ++ (B12 ++ N1))) (fun w m => m.chunk [(g1.ents 51 5), B13, [(some b12, blk cr12 30)], [(some b3, blk cs1 30)], [(some b2, blk cs0 27)], B12 ++ N1] [2, 3, 4, 0, 5] rfl (by simp) (by simp)) ?_
 refine Z0 (Z3 rfl) rfl (Z0 (Z17 rfl rfl) rfl (Z0 (Z17 rfl rfl) rfl (OW.alloc (l := LogZ0.C) rfl (by kernel_rfl) rfl (fun b13 => (Z28 (Z104 rfl rfl rfl (Lg.cells_one g1) rfl (LogC.C_length _) (Lg.cells_length g1)) (Z0 (Z5 rfl) rfl (Z6 ?_)))))))
 (refine Z1 ?_; refine Z4 ?_)
 refine Z2 (Z0 (Z22 rfl (List.Mem.tail _ Zh) rfl rfl rfl rfl hc12) rfl ?_)
 refine Z12 Try.call13 rfl (receipt_ParseLog_own w0 (More w0 Ψ B12) ((some b13, blk g1.cells 27) :: (some b12, blk cr12 30) :: (some b3, blk cs1 30) :: (some b2, blk cs0 27) :: ((g1.ents 51 5) ++ (B12 ++ N1))) (fun w m => hK12 w (m.drop 4).appR) cr12 item y (ey : Int) hit q1) rfl rfl ?_; rintro _ _ ⟨g2, B15, hok2, hv2, heb2, rfl, rfl⟩; refine Z20 (M' := (some b13, blk g1.cells 27) :: (some b12, blk cr12 30) :: (some b3, blk cs1 30) :: (some b2, blk cs0 27) :: ((g2.ents 51 5) ++ ((g1.ents 51 5) ++ (B12 ++ N1)))) (fun w m => m.chunk [(g2.ents 51 5), B15, (some b13, blk g1.cells 27) :: (some b12, blk cr12 30) :: (some b3, blk cs1 30) :: [(some b2, blk cs0 27)], (g1.ents 51 5) ++ (B12 ++ N1)] [2, 0, 3] rfl (by simp) (by simp)) ?_
 refine Z0 (Z3 rfl) rfl (Z0 (Z17 rfl rfl) rfl (Z0 (Z17 rfl rfl) rfl (OW.alloc (l := LogZ0.C) rfl (by kernel_rfl) rfl (fun b15 => (Z28 (Z104 rfl rfl rfl (Lg.cells_one g2) rfl (LogC.C_length _) (Lg.cells_length g2)) (Z0 (Z5 rfl) rfl (Z6 ?_)))))))
 (refine Z1 ?_; refine Z4 ?_)
 refine Z2 (Z0 (Z22 rfl (List.Mem.tail _ (List.Mem.tail _ (List.Mem.tail _ Zh))) rfl rfl rfl rfl hlen1) rfl ?_)
 refine Z12 Try.call14 rfl (waybillref17_ParseLog_does w0 Ψ ((some b15, blk g2.cells 27) :: (some b13, blk g1.cells 27) :: (some b12, blk cr12 30) :: (some b3, blk cs1 30) :: (some b2, blk cs0 27) :: ((g2.ents 51 5) ++ ((g1.ents 51 5) ++ (B12 ++ N1)))) (fun w m => hΨ w (m.drop 5).appR.appR.appR) cs1 item y ey hi q2) rfl rfl ?_; rintro _ B17 ⟨_, cr17, hcr17, _, rfl, rfl⟩; have hc17 := LogRd.len _ _ hcr17; refine Z20 (M' := (some b15, blk g2.cells 27) :: (some b13, blk g1.cells 27) :: (some b12, blk cr12 30) :: (some b3, blk cs1 30) :: (some b2, blk cs0 27) :: ((g2.ents 51 5) ++ ((g1.ents 51 5) ++ (B17 ++ (B12 ++ N1))))) (fun w m => m.chunk [B17, (some b15, blk g2.cells 27) :: (some b13, blk g1.cells 27) :: (some b12, blk cr12 30) :: (some b3, blk cs1 30) :: [(some b2, blk cs0 27)], (g2.ents 51 5), (g1.ents 51 5), B12 ++ N1] [1, 2, 3, 0, 4] rfl (by simp) (by simp)) ?_
 refine Z0 (Z3 rfl) rfl (Z0 (Z17 rfl rfl) rfl (Z0 (Z17 rfl rfl) rfl (OW.alloc (l := LogZ0.C) rfl (by kernel_rfl) rfl (fun b17 => (Z28 (Z104 rfl rfl rfl (LogRd.one _ _ hcr17) rfl (LogC.C_length _) hc17) (Z0 (Z5 rfl) rfl (Z6 ?_)))))))
 (refine Z1 ?_; refine Z4 ?_; refine Z4 ?_)
 have hK17 : ∀ w, Mem w0 w ((g2.ents 51 5) ++ ((g1.ents 51 5) ++ (B17 ++ (B12 ++ N1)))) → (Ψ w ∧ Mem w0 w ((g2.ents 51 5) ++ ((g1.ents 51 5) ++ B17))) := fun w m => ⟨hΨ w m.appR.appR.appR.appR, m.chunk [(g2.ents 51 5), (g1.ents 51 5), B17, B12 ++ N1] [0, 1, 2] rfl (by simp) (by simp)⟩
 have hg1R : LogRd (fun w => Ψ w ∧ Mem w0 w ((g2.ents 51 5) ++ ((g1.ents 51 5) ++ B17))) g1.cells y := by rw [← hv1]; exact Lg.rd hok1 (fun w q => q.2.appR.appL)
 have hg2R : LogRd (fun w => Ψ w ∧ Mem w0 w ((g2.ents 51 5) ++ ((g1.ents 51 5) ++ B17))) g2.cells y := by rw [← hv2]; exact Lg.rd hok2 (fun w q => q.2.appL)
 have h17R : LogRd (fun w => Ψ w ∧ Mem w0 w ((g2.ents 51 5) ++ ((g1.ents 51 5) ++ B17))) cr17 y := LogRd.mono (fun w q => ⟨q.1, q.2.appR.appR⟩) _ _ hcr17
 have hsl := sameLog_refl y
 refine Z2 (Z0 (Z22 rfl (List.Mem.tail _ (List.Mem.tail _ Zh)) rfl rfl rfl rfl (Lg.cells_length g1)) rfl (Z0 (Z22 rfl Zh rfl rfl rfl rfl hc17) rfl ?_))
 refine Z12 Try.call15 rfl (Z129 w0 _ ((some b17, blk cr17 27) :: (some b15, blk g2.cells 27) :: (some b13, blk g1.cells 27) :: (some b12, blk cr12 30) :: (some b3, blk cs1 30) :: (some b2, blk cs0 27) :: ((g2.ents 51 5) ++ ((g1.ents 51 5) ++ (B17 ++ (B12 ++ N1))))) (fun w m => hK17 w (m.drop 6)) _ y _ y true hg1R h17R hsl) rfl rfl ?_; rintro _ G1 rfl; refine Z20 (M' := (some b17, blk cr17 27) :: (some b15, blk g2.cells 27) :: (some b13, blk g1.cells 27) :: (some b12, blk cr12 30) :: (some b3, blk cs1 30) :: (some b2, blk cs0 27) :: ((g2.ents 51 5) ++ ((g1.ents 51 5) ++ (B17 ++ (B12 ++ N1))))) (fun w m => m.appR) ?_
 refine Z0 (RV.not rfl) rfl (Z0 (Z3 rfl) rfl ?_)
 refine Z24 rfl ?_; refine Z0 (Z22 rfl (List.Mem.tail _ Zh) rfl rfl rfl rfl (Lg.cells_length g2)) rfl ?_
 refine Z24 rfl ?_; refine Z0 (Z22 rfl Zh rfl rfl rfl rfl hc17) rfl ?_
 refine Z24 rfl ?_; refine Z12 Try.call15 rfl (Z129 w0 _ ((some b17, blk cr17 27) :: (some b15, blk g2.cells 27) :: (some b13, blk g1.cells 27) :: (some b12, blk cr12 30) :: (some b3, blk cs1 30) :: (some b2, blk cs0 27) :: ((g2.ents 51 5) ++ ((g1.ents 51 5) ++ (B17 ++ (B12 ++ N1))))) (fun w m => hK17 w (m.drop 6)) _ y _ y true hg2R h17R hsl) rfl rfl ?_; rintro _ G1 rfl; refine Z20 (M' := (some b17, blk cr17 27) :: (some b15, blk g2.cells 27) :: (some b13, blk g1.cells 27) :: (some b12, blk cr12 30) :: (some b3, blk cs1 30) :: (some b2, blk cs0 27) :: ((g2.ents 51 5) ++ ((g1.ents 51 5) ++ (B17 ++ (B12 ++ N1))))) (fun w m => m.appR) ?_
 refine Z24 rfl ?_; refine Z0 (RV.not rfl) rfl ?_
 refine Z0 (Z108 rfl rfl rfl) rfl (Z0 (Z3 rfl) rfl ?_)
 refine Z24 rfl ?_; refine Z0 (Z3 rfl) rfl ?_
 refine Z24 rfl ?_; refine Z12 Try.call9 rfl (waybilllaw17_num_does w0 (fun _ => True) ((some b17, blk cr17 27) :: (some b15, blk g2.cells 27) :: (some b13, blk g1.cells 27) :: (some b12, blk cr12 30) :: (some b3, blk cs1 30) :: (some b2, blk cs0 27) :: ((g2.ents 51 5) ++ ((g1.ents 51 5) ++ (B17 ++ (B12 ++ N1))))) (fun _ _ => trivial) (ey : Int) (ey : Int) (by omega) rfl) rfl rfl ?_; rintro _ G1 ⟨_, rfl⟩; refine Z20 (M' := (some b17, blk cr17 27) :: (some b15, blk g2.cells 27) :: (some b13, blk g1.cells 27) :: (some b12, blk cr12 30) :: (some b3, blk cs1 30) :: (some b2, blk cs0 27) :: ((g2.ents 51 5) ++ ((g1.ents 51 5) ++ (B17 ++ (B12 ++ N1))))) (fun w m => m.appR) ?_
 refine Z24 rfl ?_; refine Z0 (Z3 rfl) rfl ?_
 refine Z24 rfl ?_; refine Z0 (RV.neq_f rfl rfl rfl) rfl ?_
 refine Z0 (Z108 rfl rfl rfl) rfl (Z6 (Z1 (Z14 rfl rfl ?_)))
 have fit1 : ∀ g ∈ [g1], (g.t.length + 101) * 32 ≤ 140737488355328 ∧ g.d.length + 100 ≤ 140737488355328 := fun g hg => by
  obtain rfl := List.mem_singleton.1 hg
  rw [← hv1] at hyt hyd
  have h1 : g.t.length ≤ 4 := hyt
  have h2 : g.d.length ≤ 2147483647 := hyd
  omega
 have fit2 : ∀ g ∈ [g2], (g.t.length + 101) * 32 ≤ 140737488355328 ∧ g.d.length + 100 ≤ 140737488355328 := fun g hg => by
  obtain rfl := List.mem_singleton.1 hg
  rw [← hv2] at hyt hyd
  have h1 : g.t.length ≤ 4 := hyt
  have h2 : g.d.length ≤ 2147483647 := hyd
  omega
 have how : ∀ (g : Lg) (b : Nat), OwnS (some b) 1 1 22 (lgC [g]) [] := fun g b => ⟨by rw [lgC_one1, Lg.cells_length], by rw [List.append_nil, lgC_one1, Lg.cells_length], (fun h => nomatch h), by decide⟩
 have hgl1 := Lg.cells_length g1
 have hgl2 := Lg.cells_length g2
 (refine CW.skip ?_; refine Z1 ?_; refine Z4 ?_)
 refine Z2 (Z0 (Z22 rfl (List.Mem.tail _ (List.Mem.tail _ Zh)) rfl rfl rfl rfl hgl1) rfl ?_)
 refine OW.ofN (NV.bsA rfl rfl (by intro x hx; simp at hx; subst hx; exact hgl1) rfl rfl rfl (by decide) (by decide) rfl) rfl (fun ba => ?_); refine OW.cells g1.cells (by simp) ?_
 refine Z0 (Z22 rfl (List.Mem.tail _ (List.Mem.tail _ Zh)) rfl rfl rfl rfl hgl2) rfl ?_
 refine OW.ofN (NV.bsA rfl rfl (by intro x hx; simp at hx; subst hx; exact hgl2) rfl rfl rfl (by decide) (by decide) rfl) rfl (fun bb => ?_); refine OW.cells g2.cells (by simp) ?_
 refine Z20 (M' := (((some ba, blk (lgC [g1] ++ []) 27) :: lgs 51 5 [g1]) ++ ((some bb, blk (lgC [g2] ++ []) 27) :: lgs 51 5 [g2])) ++ ((some b12, blk cr12 30) :: (some b3, blk cs1 30) :: (some b2, blk cs0 27) :: (B12 ++ N1))) (fun w m => by rw [lgC_one1, lgC_one1, lgs_one1, lgs_one1, List.append_nil, List.append_nil]; exact m.chunk [[(some bb, blk g2.cells 27)], [(some ba, blk g1.cells 27)], (some b17, blk cr17 27) :: (some b15, blk g2.cells 27) :: [(some b13, blk g1.cells 27)], (some b12, blk cr12 30) :: (some b3, blk cs1 30) :: [(some b2, blk cs0 27)], (g2.ents 51 5), (g1.ents 51 5), B17, B12 ++ N1] [1, 5, 0, 4, 3, 7] rfl (by simp) (by simp)) ?_; refine Z12 Try.call16 rfl (waybilllaw17_apart_does w0 ((some b12, blk cr12 30) :: (some b3, blk cs1 30) :: (some b2, blk cs0 27) :: (B12 ++ N1)) (some ba) (some bb) 1 1 [] [] [g1] [g2] (fun g hg => by obtain rfl := List.mem_singleton.1 hg; exact hok1) (how g1 ba) (fun g hg => by obtain rfl := List.mem_singleton.1 hg; exact hok2) (how g2 bb) fit1 fit2) rfl rfl ?_; rintro _ _ ⟨rfl, rfl⟩; refine Z20 (M' := (some b12, blk cr12 30) :: (some b3, blk cs1 30) :: (some b2, blk cs0 27) :: (B12 ++ N1)) (fun w m => m) ?_
 refine Z0 (Z5 rfl) rfl (Z6 ?_)
 (refine Z1 ?_; refine Z4 ?_)
 refine Z2 (Z0 (Z3 rfl) rfl (Z0 (Z3 rfl) rfl ?_))
 refine Z24 rfl ?_; refine Z0 (Z22 rfl Zh rfl rfl rfl rfl hc12) rfl ?_
 refine Z24 rfl ?_; refine Z0 (Z22 rfl (List.Mem.tail _ Zh) rfl rfl rfl rfl hlen1) rfl ?_
 refine Z24 rfl ?_; refine Z12 Try.call17 rfl (waybilllaw17_stillItem_rec w0 (fun d _ => hst d) (item.sz + 1) (More w0 Ψ B12) ((some b12, blk cr12 30) :: (some b3, blk cs1 30) :: (some b2, blk cs0 27) :: (B12 ++ N1)) (fun w m => hK12 w (m.drop 3)) cr12 cs1 item (Nat.lt_succ_self _) hwt hcr12 (ItRd.mono (fun w q => q.1) _ _ hi)) rfl rfl ?_; rintro _ G1 rfl; refine Z20 (M' := (some b12, blk cr12 30) :: (some b3, blk cs1 30) :: (some b2, blk cs0 27) :: (B12 ++ N1)) (fun w m => m.appR) ?_
 refine Z0 (Z112 rfl rfl rfl) rfl (Z0 (Z5 rfl) rfl (Z6 ?_))
 (refine Z1 ?_; refine CW.ret ?_)
 refine Z102 (rs := [.tmp 4]) [.bool true] [] rfl ?_ rfl ?_ ?_ _ (.inl rfl)
 ·exact ⟨rfl, trivial⟩
 ·exact rfl
 ·exact (fun w m => hN1N w (m.drop 3).appR)
end Go.Fw.Try
namespace Go.Fw
open Go Go.RowKit Go.Deep Go.WideShapes
section
variable {H : Type} {enc : TypeId × Value → H} {P : Program} {W : World} {tL tA tS tH tB t8 : TypeId}
theorem arg_log (T : LogTypes P tL tA tS tH tB t8) {b0 : Nat} {v : Value} (hval : Value.okWide P W .any b0 tL v) {d : DataW H} {ps : List MemPlace} (h : DataW.Trod enc P W 0 (fun _ => true) true tL v d ps) (hz : Fits P tL d) :
    ∃ (cs : List Value) (x : Log), v = .agg cs.toArray ∧ LogRd (fun w => Mem W w []) cs x ∧ LogD d x ∧ x.topics.length * 32 ≤ 140737488351232 ∧ x.data.length ≤ 140737488351232 := by
 obtain ⟨xs, rfl⟩ := okWide_st T.hL hval
 obtain ⟨fuel, hf⟩ := h
 have hr : reads enc P W fuel tL xs.toList = some (d, ps) := by simpa [Value.cells] using hf
 obtain ⟨_, _, _, _, hcl, _⟩ := DataW.trod_struct T.hL hr
 rw [T.cL] at hcl
 obtain ⟨x, h1, h2, h3, h4⟩ := reads_log T hcl hr hz
 exact ⟨xs.toList, x, by simp, h1, h2, h3, h4⟩
end
end Go.Fw
