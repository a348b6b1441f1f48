/- Part of a proof: rules that its law uses. -/
import Derived.Test.YtdmnfcjekomaiaaDoorT6
set_option linter.unusedVariables false
set_option linter.unusedSimpArgs false
set_option linter.unusedSectionVars false
set_option maxRecDepth 100000
set_option maxHeartbeats 1000000
namespace Go.Fw.Tryd
open Go Go.Proofs Go.Fw
theorem waybillref07_Copy_orec (w0 : World) : ∀ (kf : Nat) (Φ : Ctx) (N : List Ent) (hΦ : ∀ w, Mem w0 w N → Φ w) (A0_ : Option Addr) (c0_ : Nat) (cs0_ : List Value) (a0 : List (It)) (res0 : List (It)) (va0 : View Φ A0_ a0.length c0_ 3 cs0_) (ha0 : Reps (ItRd Φ) cs0_ a0) (hf : waybillref07_Copy.r kf a0 = some res0), DoesG Tryd.prog 15 [.slice A0_ a0.length c0_] w0 [] N (fun v G => ∃ (os : List Ow) (B : List Ent) (or0 : Option Nat) (kr0 : Nat) (rr0 : List Value), Ows.it os = res0 ∧ Ows.Ok os ∧ OwnS or0 os.length kr0 3 (Ows.cs os) rr0 ∧ v = sl or0 0 os.length kr0 ∧ G = (or0, blk (Ows.cs os ++ rr0) 25) :: (Ows.ents 25 os ++ B)) := by
 intro kf
 induction kf with
 | zero => intro Φ N hΦ A0_ c0_ cs0_ a0 res0 va0 ha0 hf; rw [waybillref07_Copy.r] at hf; cases hf
 | succ kf ih =>
  intro Φ N hΦ A0_ c0_ cs0_ a0 res0 va0 ha0 hf
  rw [waybillref07_Copy.r] at hf
  have m1 := va0.mx
  refine DoesG.enter Tryd.func15 rfl Tryd.ntmps15 rfl (M := N) rfl (Z4 (Z2 (Z0 (Z5 rfl) rfl (Z6 ?_))))
  (refine Z1 ?_; refine Z4 ?_)
  refine Z2 (Z0 (Z5 rfl) rfl (Z6 ?_))
  (refine Z1 ?_; refine Z4 ?_; refine Z4 ?_)
  refine Z2 (Z0 (Z5 rfl) rfl (Z6 ?_))
  obtain ⟨q2, hq3, hf⟩ := Z103 hf
  refine Z1 ?_
  refine Z120 (fun L' M' => ∃ (os : List Ow) (B : List Ent) (ob : Option Nat) (c : Nat) (r : List Value), q2 = Ows.it os ∧ Ows.Ok os ∧ OwnS ob os.length c 3 (Ows.cs os) r ∧ L' = [(3, sl ob 0 os.length c)] ∧ M' = (ob, blk (Ows.cs os ++ r) 25) :: (Ows.ents 25 os ++ (B ++ N))) ?_ ?_
  ·rintro L' M' ⟨os, B, ob, c, r, rfl, hok, ho, rfl, rfl⟩
   (refine Z1 ?_; refine Z4 ?_)
   refine Z2 (Z0 (Z3 rfl) rfl (Z0 (Z5 rfl) rfl (Z6 ?_)))
   (refine Z1 ?_; refine CW.ret ?_)
   obtain rfl := Zi hf
   refine Z106 (rs := [.tmp 2]) [sl ob 0 os.length c] ((ob, blk (Ows.cs os ++ r) 25) :: (Ows.ents 25 os ++ B)) rfl ⟨rfl, trivial⟩ rfl ⟨os, B, ob, c, r, rfl, hok, ho, rfl, rfl⟩ (fun w m => by simpa only [List.append_assoc, List.cons_append] using m) _ (.inl rfl)
  ·refine CW.block (Z138 (fun k L' M' => ∃ (os : List Ow) (n : Nat) (B : List Ent) (ob : Option Nat) (c : Nat) (r : List Value), (waybillref07_Copy.l1 a0 (waybillref07_Copy.r kf) k (Ows.it os) n) = some q2 ∧ Ows.Ok os ∧ OwnS ob os.length c 3 (Ows.cs os) r ∧ n ≤ 9223372036854775807 ∧ L' = [(0, .slice A0_ a0.length c0_), (3, sl ob 0 os.length c), (4, .int .i64 (n : Int))] ∧ M' = (ob, blk (Ows.cs os ++ r) 25) :: (Ows.ents 25 os ++ (B ++ N))) ⟨[], 0, [], none, 0, [], hq3, trivial, OwnS.nil, by omega, rfl, rfl⟩ ⟨rfl, rfl, rfl, trivial⟩ (fun w m => m.nil_ent _) ?_)
   rintro k L' M' ⟨os, n, B, ob, c, r, hl, hok, ho, hn, rfl, rfl⟩
   rcases k with _ | k
   ·rw [waybillref07_Copy.l1] at hl; cases hl
   rw [waybillref07_Copy.l1] at hl
   (refine Z4 ?_; refine Z4 ?_)
   refine Z2 (Z0 (Z3 rfl) rfl (Z0 (Z3 rfl) rfl (Z0 (RV.len rfl rfl) rfl (Z0 (RV.lss rfl rfl) rfl (Z6 (Z1 ?_))))))
   by_cases h1 : n < a0.length
   ·replace hl := if_t hl h1
    refine Z13 rfl (decide_eq_true (by omega)) ?_
    obtain ⟨x, hx, hl⟩ := Z103 hl
    obtain ⟨cs2, h43, h44⟩ := ha0.get ItRd.len hx
    obtain ⟨A2, c2, A3, c3, cs3, e53, v2, v3, h52⟩ := ItRd.opn h43
    subst e53
    (refine CW.skip ?_; refine Z1 ?_; refine Z4 ?_; refine CW.block ?_; refine Z4 ?_)
    refine Z2 (Z0 (Z3 rfl) rfl (Z0 (Z3 rfl) rfl (Z0 (RV.idx_rs n rfl rfl rfl rfl rfl (va0.isSome (by decide) h1) (by omega)) rfl (Z0 (RV.loadAs rfl rfl rfl rfl (fun w m => va0.load (hΦ w m.tail.appR.appR) h44) rfl) rfl (OW.alloc rfl rfl rfl (fun b5 => ?_))))))
    refine Z28 (Z105 rfl rfl rfl (by intro u hu; simp at hu; rcases hu with rfl | rfl | rfl <;> rfl) rfl rfl rfl) ?_
    refine Z6 (Z1 ?_)
    obtain ⟨y, hy, hl⟩ := Z103 hl
    obtain ⟨z, hz, hl⟩ := Z103 hl
    refine Z124 11 mixed (by kernel_rfl) rfl (Z18 0 rfl (by kernel_rfl) rfl (Z3 rfl) rfl (Z18 1 rfl (by kernel_rfl) rfl (Z30 rfl rfl rfl rfl) rfl (Z18 2 rfl (by kernel_rfl) rfl (Z29 rfl Zh rfl rfl rfl rfl) rfl (Z18 3 rfl (by kernel_rfl) rfl (Z30 rfl rfl rfl rfl) rfl (Z18 4 rfl (by kernel_rfl) rfl (Z29 rfl Zh rfl rfl rfl rfl) rfl (Z18 6 rfl (by kernel_rfl) rfl (Z30 rfl rfl rfl rfl) rfl (Z18 7 rfl (by kernel_rfl) rfl (Z29 rfl Zh rfl rfl rfl rfl) rfl ?_)))))))
    refine Z25 5 rfl (by kernel_rfl) rfl Tryd.call41 rfl (fun N' hN' => Z122 w0 Φ N' (fun w m => hΦ w ((hN' w m).tail.tail.appR.appR)) A2 c2 x.data y v2 hy) rfl ?_
    rintro _ _ ⟨B1, ob1, c1, r1, o1, rfl, rfl⟩
    refine Z25 8 rfl (by kernel_rfl) rfl Tryd.call15 rfl (fun N' hN' => ih Φ N' (fun w m => hΦ w ((hN' w m).tail.appR.tail.tail.appR.appR)) A3 c3 cs3 x.items z v3 h52 hz) rfl ?_
    rintro _ _ ⟨os2, B2, ob2, ci2, r2, rfl, hok2, o2, rfl, rfl⟩
    refine Z18 9 rfl (by kernel_rfl) rfl (Z109 (l := [.bool false, .slice none 0 0, .slice none 0 0]) (cs := [.bool x.list, sl ob1 0 y.length c1, sl ob2 0 os2.length ci2]) [(0, [.bool x.list]), (1, [sl ob1 0 y.length c1]), (2, [sl ob2 0 os2.length ci2])] rfl rfl rfl rfl rfl rfl rfl) rfl ?_
    refine UW.new 10 rfl (by kernel_rfl) rfl (NV.bsA rfl rfl (by intro x hx; simp at hx; subst hx; exact rfl) rfl rfl rfl (by decide) (by decide) rfl) rfl (fun b84 => ?_)
    refine UW.nil (by kernel_rfl) (Z20 (M' := (ob, blk (Ows.cs os ++ r) 25) :: (some b84, blk (Ow.cs (Ow.mk x.list ob1 y r1 c1 ob2 ci2 r2 os2)) 25) :: (Ows.ents 25 (os ++ [Ow.mk x.list ob1 y r1 c1 ob2 ci2 r2 os2]) ++ ((B2 ++ (B1 ++ B)) ++ N))) (fun w m => m.chunk [[(some b84, blk (Ow.cs (Ow.mk x.list ob1 y r1 c1 ob2 ci2 r2 os2)) 25)], [(ob2, blk (Ows.cs os2 ++ r2) 25)], Ows.ents 25 os2, B2, [(ob1, blk (u8s y ++ r1) 5)], B1, [(some b5, blk [.bool x.list, .slice A2 x.data.length c2, .slice A3 x.items.length c3] 25)], [(ob, blk (Ows.cs os ++ r) 25)], Ows.ents 25 os, B, N] [7, 0, 8, 4, 1, 2, 3, 5, 9, 10] rfl (by simp [Ow.cs]) (by simp [Ows.ents_app, Ows.ents, Ow.ents])) ?_)
    obtain ⟨hb, hl⟩ := Z128 hl
    rw [Ows.it_length] at hb
    simp only [List.length_cons, List.length_nil] at hb
    refine OW.appendOwn (s := 3) rfl rfl rfl rfl rfl rfl ho (fun w m => m.rd0 (r := []) (List.Mem.tail _ (by rw [List.append_nil]; exact List.Mem.head _)) (fun e => nomatch e)) rfl (Ow.cs_one _) (fun e => nomatch e) (by decide) (by decide) (by simp only [i25]; omega) rfl rfl ((os ++ [Ow.mk x.list ob1 y r1 c1 ob2 ci2 r2 os2]).length) (Ows.cs (os ++ [Ow.mk x.list ob1 y r1 c1 ob2 ci2 r2 os2])) (by simp) (by rw [Ows.cs_app, Ows.cs_sing]) (fun ob3 r3 c3' o3 => ?_)
    refine Z0 (Z5 rfl) rfl (Z6 ?_)
    (refine Z27 ?_; refine Z1 ?_)
    refine Z2 (Z0 (Z3 rfl) rfl (Z0 (RV.add rfl rfl (by omega)) rfl (Z0 (Z5 rfl) rfl (Z6 ?_))))
    refine Z131 (k' := k) (Nat.lt_succ_self _) ⟨os ++ [Ow.mk x.list ob1 y r1 c1 ob2 ci2 r2 os2], n + 1, B2 ++ (B1 ++ B), ob3, c3', r3, ?_, Ows.Ok_app.2 ⟨hok, by rw [Ows.Ok, Ow.Ok]; exact ⟨⟨o1, o2, hok2⟩, trivial⟩⟩, o3, by omega, rfl, rfl⟩ ⟨rfl, rfl, rfl, trivial⟩ (fun w m => m.pick [0] 2 rfl rfl)
    rw [Ows.it_app]
    simp only [Ows.it, Ow.it]
    exact hl
   ·replace hl := if_f hl h1
    refine Z14 rfl (decide_eq_false (by omega)) (CW.exit ?_)
    (refine Z9 ?_; refine Z9 ?_; refine Z15 ?_)
    exact QW.join ⟨os, B, ob, c, r, (Zi hl).symm, hok, ho, rfl, rfl⟩ ⟨rfl, trivial⟩ (fun w m => m)
theorem waybilllaw19_HeaderReads_does (w0 : World) (Φ : Ctx) (N : List Ent) (hΦ : ∀ w, Mem w0 w N → Φ w) (A0_ : Option Addr) (c0_ : Nat) (a0 : List (BitVec 8)) (cs1_ : List Value) (a1 : It) (va0 : View Φ A0_ a0.length c0_ 1 (u8s a0)) (ha1 : ItRd Φ cs1_ a1) (hb : a0.length + 9 ≤ 140737488355328) (hlens : a1.lens) (hg0 : View Φ (some ⟨0, 0, none⟩) 21 21 1 (i64s fieldsL)) :
  DoesG Tryd.prog 3 [.slice A0_ a0.length c0_, .agg cs1_.toArray] w0 [] N (fun v G => v = .bool true) := by
 have hcl1 := ItRd.len _ _ ha1
 obtain ⟨bd, hbd, hbw⟩ := beyond_ok a1 hlens
 refine DoesG.enter Tryd.func3 rfl Tryd.ntmps3 rfl (M := N) rfl (Z4 (Z2 (OW.boxA rfl rfl (fun b3 => (Z0 (Z5 rfl) rfl (Z6 ?_))))))
 (refine Z1 ?_; refine Z4 ?_; refine Z4 ?_)
 refine Z2 (Z0 (Z22 rfl Zh rfl rfl rfl rfl hcl1) rfl ?_)
 refine Z12 Tryd.call9 rfl (waybillref07_Beyond_does w0 Φ ((some b3, blk cs1_ 25) :: N) (fun w m => hΦ w m.tail) cs1_ a1 bd ha1 hbd) rfl rfl ?_; rintro _ G1 rfl; refine Z20 (M' := (some b3, blk cs1_ 25) :: N) (fun w m => m.appR) ?_
 refine Z6 (Z1 ?_)
 cases bd with
 | true =>
  refine Z13 rfl rfl (Z4 (Z2 (Z0 (Z5 rfl) rfl (Z6 ?_))))
  (refine Z1 ?_; refine CW.ret ?_; refine Z8 ?_)
  refine Z106 (rs := [.tmp 4]) [.bool true] [] rfl ⟨rfl, trivial⟩ rfl rfl (fun w m => m.tail) _ (.inl rfl)
 | false =>
 have hwt := hbw rfl
 refine Z14 rfl rfl ?_
 (refine CW.skip ?_; refine Z1 ?_; refine Z4 ?_)
 refine Z2 (Z0 (Z3 rfl) rfl (Z0 (RV.len rfl rfl) rfl (Z0 (RV.add rfl rfl (by omega)) rfl (OW.make (a0.length + 9) (a0.length + 9) rfl rfl rfl rfl rfl rfl rfl rfl (by omega) (by simp only [i5]; omega) (by omega) rfl (fun b26 => (Z0 (Z5 rfl) rfl (Z6 ?_)))))))
 (refine Z1 ?_; refine Z4 ?_)
 refine Z2 (Z0 (Z3 rfl) rfl (Z0 (Z3 rfl) rfl ?_))
 refine OW.copy (ob := some b26) (off := 0) (l := List.replicate (a0.length + 9) (Value.int .u8 0)) (te := 5) rfl rfl rfl rfl (fun h => nomatch h) (by rw [List.length_replicate]; omega) (fun w m => va0.rd w (hΦ w (m.drop 2))) (Z100 _) (Z123 _) (va0.zero (by decide)) rfl ?_; refine Z20 (M' := (some b26, blk (u8s (a0 ++ List.replicate 9 0#8)) 5) :: (some b3, blk cs1_ 25) :: N) (fun w m => by rw [mkd_copy (n := 9) (m := 0#8) (by omega)] at m; simpa [mkd] using m) ?_
 refine Z6 ?_
 (refine Z1 ?_; refine Z4 ?_)
 have hm0 := va0.mx
 have hvG : View (fun w => Mem w0 w [(some b26, blk (u8s (a0 ++ List.replicate 9 0#8)) 5)]) (some ⟨b26, 0, none⟩) a0.length (a0.length + 9) 1 (u8s a0) := ⟨fun w q => by
  rw [← u8s_app] at q
  exact q.rd0 (List.mem_cons_self ..) (fun e => nomatch e), fun _ => rfl, by rw [Z100]; omega, by omega, by omega⟩
 have hvG' : View (fun w => Φ w ∧ Mem w0 w [(some b26, blk (u8s (a0 ++ List.replicate 9 0#8)) 5)]) (some ⟨b26, 0, none⟩) a0.length (a0.length + 9) 1 (u8s a0) := hvG.mono (fun w q => q.2)
 obtain ⟨h, e, hd1, hd2⟩ := hdecode_both a0
 refine Z2 (Z0 (Z3 rfl) rfl (Z0 (Z3 rfl) rfl (Z0 (RV.len rfl rfl) rfl (Z0 (RV.cut_o a0.length rfl rfl rfl rfl rfl (by omega)) rfl ?_))))
 refine Z12 Tryd.call10 rfl (header_Decode_does w0 (fun w => Φ w ∧ Mem w0 w [(some b26, blk (u8s (a0 ++ List.replicate 9 0#8)) 5)]) ((some b26, blk (u8s (a0 ++ List.replicate 9 0#8)) 5) :: (some b3, blk cs1_ 25) :: N) (fun w m => ⟨hΦ w (m.drop 2), m.sublist (List.singleton_sublist.2 (List.mem_cons_self ..))⟩) _ _ a0 h e hvG' (hg0.mono (fun w q => q.1)) hd1) rfl rfl ?_; rintro _ B6 ⟨_, cr6, hcr6, hkb, rfl, rfl⟩; have hl6 := HdrRd.len _ _ hcr6; refine Z20 (M' := (some b26, blk (u8s (a0 ++ List.replicate 9 0#8)) 5) :: (some b3, blk cs1_ 25) :: (B6 ++ N)) (fun w m => m.chunk [B6, [(some b26, blk (u8s (a0 ++ List.replicate 9 0#8)) 5)], [(some b3, blk cs1_ 25)], N] [1, 2, 0, 3] rfl (by simp) (by simp)) ?_
 refine Z0 (Z3 rfl) rfl (Z0 (Z17 rfl rfl) rfl (Z0 (Z17 rfl rfl) rfl (OW.alloc (l := (Hdr.zero.C none 0).C) rfl Z121 rfl (fun b6 => (Z28 (Z105 rfl rfl rfl (HdrRd.one _ _ hcr6) rfl Z111 hl6) (Z0 (Z5 rfl) rfl (Z6 ?_)))))))
 (refine Z1 ?_; refine Z4 ?_)
 refine Z2 (Z0 (Z3 rfl) rfl ?_)
 refine Z12 Tryd.call11 rfl (Z145 w0 Φ ((some b6, blk cr6 38) :: (some b26, blk (u8s (a0 ++ List.replicate 9 0#8)) 5) :: (some b3, blk cs1_ 25) :: (B6 ++ N)) (fun w m => hΦ w (m.drop 3).appR) _ _ a0 h e va0 hd2) rfl rfl ?_; rintro _ B8 ⟨_, cr8, hcr8, _, rfl, rfl⟩; have hl8 := HdrRd.len _ _ hcr8; refine Z20 (M' := (some b6, blk cr6 38) :: (some b26, blk (u8s (a0 ++ List.replicate 9 0#8)) 5) :: (some b3, blk cs1_ 25) :: (B8 ++ (B6 ++ N))) (fun w m => m.chunk [B8, [(some b6, blk cr6 38)], [(some b26, blk (u8s (a0 ++ List.replicate 9 0#8)) 5)], [(some b3, blk cs1_ 25)], B6 ++ N] [1, 2, 3, 0, 4] rfl (by simp) (by simp)) ?_
 refine Z0 (Z3 rfl) rfl (Z0 (Z17 rfl rfl) rfl (Z0 (Z17 rfl rfl) rfl (OW.alloc (l := (Hdr.zero.C none 0).C) rfl Z121 rfl (fun b8 => (Z28 (Z105 rfl rfl rfl (HdrRd.one _ _ hcr8) rfl Z111 hl8) (Z0 (Z5 rfl) rfl (Z6 ?_)))))))
 (refine Z1 ?_; refine Z4 ?_; refine Z4 ?_)
 have hR6 : HdrRd (fun w => Φ w ∧ Mem w0 w ((some b26, blk (u8s (a0 ++ List.replicate 9 0#8)) 5) :: (B8 ++ B6))) cr6 h := HdrRd.mono (fun w q => ⟨⟨q.1, q.2.sublist (List.singleton_sublist.2 (List.mem_cons_self ..))⟩, q.2.tail.appR⟩) _ _ hcr6
 have hR8 : HdrRd (fun w => Φ w ∧ Mem w0 w ((some b26, blk (u8s (a0 ++ List.replicate 9 0#8)) 5) :: (B8 ++ B6))) cr8 h := HdrRd.mono (fun w q => ⟨q.1, q.2.tail.appL⟩) _ _ hcr8
 have hΨ6 : ∀ w, Mem w0 w ((some b8, blk cr8 38) :: (some b6, blk cr6 38) :: (some b26, blk (u8s (a0 ++ List.replicate 9 0#8)) 5) :: (some b3, blk cs1_ 25) :: (B8 ++ (B6 ++ N))) → (Φ w ∧ Mem w0 w ((some b26, blk (u8s (a0 ++ List.replicate 9 0#8)) 5) :: (B8 ++ B6))) := fun w m => ⟨hΦ w (m.drop 4).appR.appR, m.chunk [[(some b8, blk cr8 38)], [(some b6, blk cr6 38)], [(some b26, blk (u8s (a0 ++ List.replicate 9 0#8)) 5)], [(some b3, blk cs1_ 25)], B8, B6, N] [2, 4, 5] rfl (by simp) (by simp)⟩
 have hsm := hsame_refl h
 have heq0 := equal_refl a0
 have heq9 := equal_refl (List.replicate 9 0#8)
 have hvA : View (fun w => Mem w0 w [(some b26, blk (u8s (a0 ++ List.replicate 9 0#8)) 5)]) (some ⟨b26, 0, none⟩) (a0 ++ List.replicate 9 0#8).length (a0.length + 9) 1 (u8s (a0 ++ List.replicate 9 0#8)) := ⟨fun w q => q.rdl (List.mem_cons_self ..) (fun e => nomatch e), fun _ => rfl, by rw [Z100]; omega, by simp, by simp; omega⟩
 have hv9 := View.lo8 (f := U8) hvA (k := a0.length) (by simp)
 rw [List.drop_left] at hv9
 refine Z124 28 mixed (by kernel_rfl) rfl (Z18 0 rfl (by kernel_rfl) rfl (Z3 rfl) rfl (Z18 2 rfl (by kernel_rfl) rfl (Z3 rfl) rfl (Z25 1 rfl (by kernel_rfl) rfl Tryd.call12 rfl (fun N' hN' => Z140 w0 (fun _ => True) N' (fun _ _ => trivial) (e : Int) (e : Int) (by omega) rfl) rfl ?_)))
 rintro _ G1 ⟨_, rfl⟩
 refine UW.mem (M' := (some b8, blk cr8 38) :: (some b6, blk cr6 38) :: (some b26, blk (u8s (a0 ++ List.replicate 9 0#8)) 5) :: (some b3, blk cs1_ 25) :: (B8 ++ (B6 ++ N))) (fun w m => m.appR) (Z18 3 rfl (by kernel_rfl) rfl (RV.neq_f rfl rfl rfl) rfl (Z18 4 rfl (by kernel_rfl) rfl (Z3 rfl) rfl (Z18 5 rfl (by kernel_rfl) rfl (Z22 rfl (List.Mem.tail _ Zh) rfl rfl rfl rfl hl6) rfl (Z18 6 rfl (by kernel_rfl) rfl (Z22 rfl Zh rfl rfl rfl rfl hl8) rfl (Z25 7 rfl (by kernel_rfl) rfl Tryd.call13 rfl (fun N' hN' => Z137 w0 _ N' (fun w m => hΨ6 w (hN' w m)) _ h _ h true hR6 hR8 hsm) rfl ?_)))))
 rintro _ G1 rfl
 refine UW.mem (M' := (some b8, blk cr8 38) :: (some b6, blk cr6 38) :: (some b26, blk (u8s (a0 ++ List.replicate 9 0#8)) 5) :: (some b3, blk cs1_ 25) :: (B8 ++ (B6 ++ N))) (fun w m => m.appR) (Z18 8 rfl (by kernel_rfl) rfl (RV.not rfl) rfl (Z18 9 rfl (by kernel_rfl) rfl (Z110 rfl rfl rfl) rfl (Z18 10 rfl (by kernel_rfl) rfl (Z3 rfl) rfl (Z18 11 rfl (by kernel_rfl) rfl (Z3 rfl) rfl (Z18 12 rfl (by kernel_rfl) rfl (Z3 rfl) rfl (Z18 13 rfl (by kernel_rfl) rfl (RV.len rfl rfl) rfl (Z18 14 rfl (by kernel_rfl) rfl (RV.cut_o a0.length rfl rfl rfl rfl rfl (by omega)) rfl ?_)))))))
 refine Z18 15 rfl (by kernel_rfl) rfl (Z3 rfl) rfl (Z25 16 rfl (by kernel_rfl) rfl Tryd.call14 rfl (fun N' hN' => Z136 w0 (fun w => Φ w ∧ Mem w0 w [(some b26, blk (u8s (a0 ++ List.replicate 9 0#8)) 5)]) N' (fun w m => ⟨(hΨ6 w (hN' w m)).1, (hΨ6 w (hN' w m)).2.sublist (List.singleton_sublist.2 (List.mem_cons_self ..))⟩) _ _ a0 _ _ a0 true hvG' (va0.mono (fun w q => q.1)) heq0) rfl ?_)
 rintro _ G1 rfl
 refine UW.mem (M' := (some b8, blk cr8 38) :: (some b6, blk cr6 38) :: (some b26, blk (u8s (a0 ++ List.replicate 9 0#8)) 5) :: (some b3, blk cs1_ 25) :: (B8 ++ (B6 ++ N))) (fun w m => m.appR) (Z18 17 rfl (by kernel_rfl) rfl (RV.not rfl) rfl (Z18 18 rfl (by kernel_rfl) rfl (Z110 rfl rfl rfl) rfl (Z18 19 rfl (by kernel_rfl) rfl (Z3 rfl) rfl (Z18 20 rfl (by kernel_rfl) rfl (Z3 rfl) rfl (Z18 21 rfl (by kernel_rfl) rfl (Z3 rfl) rfl (Z18 22 rfl (by kernel_rfl) rfl (RV.len rfl rfl) rfl (Z18 23 rfl (by kernel_rfl) rfl (RV.cut_lo (A := some ⟨b26, 0, none⟩) a0.length rfl rfl rfl rfl rfl (by omega)) rfl ?_)))))))
 refine UW.slot (.slice (subA (some ⟨b26, 0, none⟩) (a0.length + 9) a0.length 1) (List.replicate 9 0#8).length (a0.length + 9 - a0.length)) (by rw [List.length_replicate, Nat.add_sub_cancel_left]; rfl) ?_
 refine UW.new 24 rfl (by kernel_rfl) rfl (NV.make 9 9 rfl rfl rfl rfl rfl rfl rfl rfl (by decide) (by simp only [i5]; decide) (by decide)) rfl (fun b67 => ?_)
 have hv67 : View (fun w => Mem w0 w [(some b67, blk (u8s (List.replicate 9 0#8)) 5), (some b26, blk (u8s (a0 ++ List.replicate 9 0#8)) 5)]) (some ⟨b67, 0, none⟩) (List.replicate 9 0#8).length 9 1 (u8s (List.replicate 9 0#8)) := ⟨fun w q => q.rdl (List.mem_cons_self ..) (fun e => nomatch e), fun _ => rfl, by rw [Z100]; omega, by simp, by simp⟩
 refine UW.mem (M' := (some b67, blk (u8s (List.replicate 9 0#8)) 5) :: (some b8, blk cr8 38) :: (some b6, blk cr6 38) :: (some b26, blk (u8s (a0 ++ List.replicate 9 0#8)) 5) :: (some b3, blk cs1_ 25) :: (B8 ++ (B6 ++ N))) (fun w m => m) (Z25 25 rfl (by kernel_rfl) rfl Tryd.call14 rfl (fun N' hN' => Z136 w0 _ N' (fun w m => ((hN' w m).pick [0, 3] 4 rfl rfl : Mem w0 w ((some b67, blk (u8s (List.replicate 9 0#8)) 5) :: (some b26, blk (u8s (a0 ++ List.replicate 9 0#8)) 5) :: ((some b3, blk cs1_ 25) :: (B8 ++ (B6 ++ N))))).sublist (List.Sublist.cons_cons _ (List.Sublist.cons_cons _ (List.nil_sublist _)))) _ _ (List.replicate 9 0#8) _ 9 (List.replicate 9 0#8) true (hv9.mono (fun w q => q.tail)) hv67 heq9) rfl ?_)
 rintro _ G1 rfl
 refine UW.mem (M' := (some b8, blk cr8 38) :: (some b6, blk cr6 38) :: (some b26, blk (u8s (a0 ++ List.replicate 9 0#8)) 5) :: (some b3, blk cs1_ 25) :: (B8 ++ (B6 ++ N))) (fun w m => m.appR.tail) (Z18 26 rfl (by kernel_rfl) rfl (RV.not rfl) rfl (Z18 27 rfl (by kernel_rfl) rfl (Z110 rfl rfl rfl) rfl (UW.nil (by kernel_rfl) (Z6 (Z1 (Z14 rfl rfl ?_))))))
 have hcp : waybillref07_Copy.r (Its.sz [a1] + 1) [a1] = some [a1] := copy_eq (a := [a1]) (by simp only [Its.wt]; omega)
 (refine CW.skip ?_; refine Z1 ?_; refine Z4 ?_)
 refine Z2 (Z0 (Z22 rfl (List.Mem.tail _ (List.Mem.tail _ (List.Mem.tail _ Zh))) rfl rfl rfl rfl hcl1) rfl ?_)
 refine OW.ofN (NV.bsA rfl rfl (by intro x hx; simp at hx; subst hx; exact hcl1) rfl rfl rfl (by decide) (by decide) rfl) rfl (fun b72 => ?_); refine OW.cells cs1_ (by simp) ?_; have hv72 : View (fun w => Φ w ∧ Mem w0 w [(some b72, blk cs1_ 25)]) (some ⟨b72, 0, none⟩) [a1].length 1 3 cs1_ := ⟨fun w q => q.2.rdl (List.mem_cons_self ..) (fun e => nomatch e), fun _ => rfl, by rw [hcl1]; rfl, by simp, by simp⟩; have hr72 : Reps (ItRd (fun w => Φ w ∧ Mem w0 w [(some b72, blk cs1_ 25)])) cs1_ [a1] := Reps.one (ItRd.mono (fun w q => q.1) _ _ ha1)
 refine Z12 Tryd.call15 rfl (waybillref07_Copy_orec w0 _ _ ((some b72, blk cs1_ 25) :: (some b8, blk cr8 38) :: (some b6, blk cr6 38) :: (some b26, blk (u8s (a0 ++ List.replicate 9 0#8)) 5) :: (some b3, blk cs1_ 25) :: (B8 ++ (B6 ++ N))) (fun w m => ⟨hΦ w (m.drop 5).appR.appR, m.sublist (List.singleton_sublist.2 (List.mem_cons_self ..))⟩) _ 1 cs1_ [a1] [a1] hv72 hr72 hcp) rfl rfl ?_; rintro _ _ ⟨os, B10, oT, kT, rT, hos, hok, hoT, rfl, rfl⟩; have hos1 : os.length = 1 := (by rw [← Ows.it_length os, hos, List.length_singleton]); obtain ⟨o, rfl⟩ := List.length_eq_one_iff.1 hos1; refine Z20 (M' := (oT, blk (Ows.cs [o] ++ rT) 25) :: (o.ents 25 ++ ((some b26, blk (u8s (a0 ++ List.replicate 9 0#8)) 5) :: (some b3, blk cs1_ 25) :: N))) (fun w m => m.chunk [[(oT, blk (Ows.cs [o] ++ rT) 25)], o.ents 25, B10, [(some b72, blk cs1_ 25)], [(some b8, blk cr8 38)], [(some b6, blk cr6 38)], [(some b26, blk (u8s (a0 ++ List.replicate 9 0#8)) 5)], [(some b3, blk cs1_ 25)], B8, B6, N] [0, 1, 6, 7, 10] rfl (by simp [Ows.ents]) (by simp)) ?_
 refine Z0 (Z5 rfl) rfl (Z6 ?_)
 (refine Z1 ?_; refine Z4 ?_)
 obtain ⟨bt, rfl⟩ := Option.isSome_iff_exists.1 (hoT.some_of (by decide) (i := 0) (by simp))
 have hkT := hoT.le (by decide)
 have hox : o.it = a1 := by simpa [Ows.it] using hos
 rw [Ows.Ok] at hok
 obtain ⟨hok, _⟩ := hok
 cases o with
 | mk lO obO dO rO cO oiO ciO riO its =>
 rw [Ow.Ok] at hok
 obtain ⟨hO1, hO2, hO3⟩ := hok
 obtain ⟨A2, c2, A3, c3, cs3, e53, v2, v3, h52⟩ := ItRd.opn ha1
 have hni : a1.items.length = its.length := by rw [← hox, Ow.it]; exact Ows.it_length its
 have hnw : its.length ≤ 2147483647 := by
  rw [← hni]; cases a1; simp only [It.wt] at hwt; simp only [It.items]; omega
 have hmi := hO2.mx
 have hle2 := hO2.le (by decide)
 refine CW.mem (M' := (some bt, blk (Ow.cs (Ow.mk lO obO dO rO cO oiO ciO riO its) ++ rT) 25) :: (Ow.ents 25 (Ow.mk lO obO dO rO cO oiO ciO riO its) ++ ((some b26, blk (u8s (a0 ++ List.replicate 9 0#8)) 5) :: (some b3, blk cs1_ 25) :: N))) (fun w m => by rw [Ows.cs_sing] at m; exact m) ?_
 have hE3 : cs1_[2]? = some (.slice A3 a1.items.length c3) := by rw [e53]; rfl
 refine Z2 (Z0 (Z30 rfl rfl rfl rfl) rfl (Z0 (Z29 rfl (List.Mem.tail _ (List.mem_append_right (Ow.ents 25 (Ow.mk lO obO dO rO cO oiO ciO riO its)) (List.Mem.tail _ Zh))) rfl rfl rfl hE3) rfl (Z0 (RV.len rfl rfl) rfl (Z0 (Z5 rfl) rfl (Z6 ?_)))))
 (refine Z1 ?_; refine Z4 ?_)
 refine Z2 (Z0 (Z3 rfl) rfl (Z0 (Z3 rfl) rfl (Z0 (Z139 0 rfl rfl rfl rfl rfl rfl (by simp)) rfl (Z0 (Z30 rfl rfl rfl rfl) rfl (Z0 (Z29 rfl Zh rfl rfl rfl rfl) rfl (OW.bs1 rfl rfl rfl rfl rfl rfl rfl (fun b82 => (Z0 (Z109 (l := [.bool false, .slice none 0 0, .slice none 0 0]) (cs := [.bool false, sl (some b82) 0 1 1, .slice none 0 0]) [(1, [sl (some b82) 0 1 1])] rfl rfl rfl rfl rfl rfl rfl) rfl ?_))))))))
 refine OW.ofN (NV.bsA rfl rfl (by intro x hx; simp at hx; subst hx; rfl) rfl rfl rfl (by decide) (by decide) rfl) rfl (fun b84 => ?_); refine Z20 (M' := (oiO, blk (Ows.cs its ++ riO) 25) :: (some b84, blk [.bool false, sl (some b82) 0 1 1, .slice none 0 0] 25) :: (some b82, blk [.int .u8 164] 5) :: (some bt, blk (Ow.cs (Ow.mk lO obO dO rO cO oiO ciO riO its) ++ rT) 25) :: (obO, blk (u8s dO ++ rO) 5) :: (Ows.ents 25 its ++ ((some b26, blk (u8s (a0 ++ List.replicate 9 0#8)) 5) :: (some b3, blk cs1_ 25) :: N))) (fun w m => m.chunk [[(some b84, blk [.bool false, sl (some b82) 0 1 1, .slice none 0 0] 25)], [(some b82, blk [.int .u8 164] 5)], [(some bt, blk (Ow.cs (Ow.mk lO obO dO rO cO oiO ciO riO its) ++ rT) 25)], [(obO, blk (u8s dO ++ rO) 5)], [(oiO, blk (Ows.cs its ++ riO) 25)], Ows.ents 25 its, ((some b26, blk (u8s (a0 ++ List.replicate 9 0#8)) 5) :: (some b3, blk cs1_ 25) :: N)] [4, 0, 1, 2, 3, 5, 6] rfl (by simp [Ow.ents]) (by simp)) ?_
 refine OW.appendOwn (s := 3) rfl rfl rfl rfl rfl rfl hO2 (fun w m => m.rdl (List.Mem.tail _ Zh) (fun e => nomatch e)) rfl (by intro u hu; simp at hu; rcases hu with rfl | rfl | rfl <;> rfl) (fun e => nomatch e) (by decide) (by decide) (by simp only [i25]; omega) rfl rfl (its.length + 1) (Ows.cs its ++ [.bool false, sl (some b82) 0 1 1, .slice none 0 0]) rfl rfl (fun oi2 ri2 ci2 o2 => ?_)
 refine Z0 (Z3 rfl) rfl (Z0 (RV.cut_o its.length rfl rfl (by omega) rfl rfl (by have := o2.le (by decide); omega)) rfl (Z0 (Z139 0 rfl rfl rfl rfl rfl rfl (by simp)) rfl (Z0 (Z30 rfl rfl rfl rfl) rfl ?_)))
 refine Z20 (M' := (some bt, blk (Ow.cs (Ow.mk lO obO dO rO cO oiO ciO riO its) ++ rT) 25) :: (some b82, blk [.int .u8 164] 5) :: (Ow.ents 25 (Ow.mk lO obO dO rO cO oi2 ci2 ([.bool false, sl (some b82) 0 1 1, .slice none 0 0] ++ ri2) its) ++ ((some b26, blk (u8s (a0 ++ List.replicate 9 0#8)) 5) :: (some b3, blk cs1_ 25) :: N))) (fun w m => m.chunk [[(oi2, blk ((Ows.cs its ++ [.bool false, sl (some b82) 0 1 1, .slice none 0 0]) ++ ri2) 25)], [(some b84, blk [.bool false, sl (some b82) 0 1 1, .slice none 0 0] 25)], [(some b82, blk [.int .u8 164] 5)], [(some bt, blk (Ow.cs (Ow.mk lO obO dO rO cO oiO ciO riO its) ++ rT) 25)], [(obO, blk (u8s dO ++ rO) 5)], Ows.ents 25 its, ((some b26, blk (u8s (a0 ++ List.replicate 9 0#8)) 5) :: (some b3, blk cs1_ 25) :: N)] [3, 2, 4, 0, 5, 6] rfl (by simp) (by simp [Ow.ents])) ?_; refine Z28 (SV.store rfl rfl rfl rfl rfl (by rw [List.length_append]; show _ < 3 + _; exact Nat.lt_add_right _ (by decide))) ?_; refine OW.cells (Ow.cs (Ow.mk lO obO dO rO cO oi2 ci2 ([.bool false, sl (some b82) 0 1 1, .slice none 0 0] ++ ri2) its) ++ rT) rfl ?_
 refine Z6 ?_
 (refine Z1 ?_; refine Z4 ?_)
 have hokP : Ow.Ok (Ow.mk lO obO dO rO cO oi2 ci2 ([.bool false, sl (some b82) 0 1 1, .slice none 0 0] ++ ri2) its) := by
  rw [Ow.Ok]
  exact ⟨hO1, ⟨Ows.cs_length its, by rw [← List.append_assoc]; exact o2.hr, o2.hn, hmi⟩, hO3⟩
 have hoxP : Ow.it (Ow.mk lO obO dO rO cO oi2 ci2 ([.bool false, sl (some b82) 0 1 1, .slice none 0 0] ++ ri2) its) = a1 := by rw [← hox, Ow.it, Ow.it]
 have hRP : ItRd (fun w => Φ w ∧ Mem w0 w (Ow.ents 25 (Ow.mk lO obO dO rO cO oi2 ci2 ([.bool false, sl (some b82) 0 1 1, .slice none 0 0] ++ ri2) its))) (Ow.cs (Ow.mk lO obO dO rO cO oi2 ci2 ([.bool false, sl (some b82) 0 1 1, .slice none 0 0] ++ ri2) its)) a1 := by
  have := Ow.rd (w0 := w0) (Φ := fun w => Φ w ∧ Mem w0 w (Ow.ents 25 (Ow.mk lO obO dO rO cO oi2 ci2 ([.bool false, sl (some b82) 0 1 1, .slice none 0 0] ++ ri2) its))) (t := 25) (Ow.mk lO obO dO rO cO oi2 ci2 ([.bool false, sl (some b82) 0 1 1, .slice none 0 0] ++ ri2) its) hokP (fun w q => q.2)
  rwa [hoxP] at this
 obtain ⟨x, g, hx1, hx2⟩ := hparse_some hwt
 have hldT : ∀ (j : Nat) (u : Value), (Ow.cs (Ow.mk lO obO dO rO cO oi2 ci2 ([.bool false, sl (some b82) 0 1 1, .slice none 0 0] ++ ri2) its))[j]? = some u → (Ow.cs (Ow.mk lO obO dO rO cO oi2 ci2 ([.bool false, sl (some b82) 0 1 1, .slice none 0 0] ++ ri2) its) ++ rT)[0 + 0 * 3 + j]? = some u := fun j u hj => by
  have := (List.getElem?_eq_some_iff.1 hj).1
  rw [Nat.zero_mul, Nat.zero_add, List.getElem?_append_left this]; exact hj
 refine Z2 (Z0 (Z3 rfl) rfl (Z0 (Z139 0 rfl rfl rfl rfl rfl rfl (by simp)) rfl (Z0 (Z114 rfl Zh rfl rfl rfl rfl hldT rfl) rfl ?_)))
 refine Z12 Tryd.call16 rfl (header_Parse_does w0 _ ((some bt, blk (Ow.cs (Ow.mk lO obO dO rO cO oi2 ci2 ([.bool false, sl (some b82) 0 1 1, .slice none 0 0] ++ ri2) its) ++ rT) 25) :: (some b82, blk [.int .u8 164] 5) :: (Ow.ents 25 (Ow.mk lO obO dO rO cO oi2 ci2 ([.bool false, sl (some b82) 0 1 1, .slice none 0 0] ++ ri2) its) ++ ((some b26, blk (u8s (a0 ++ List.replicate 9 0#8)) 5) :: (some b3, blk cs1_ 25) :: N))) (fun w m => ⟨hΦ w ((m.drop 2).appR.drop 2), (m.drop 2).appL⟩) _ a1 x g hRP (hg0.mono (fun w q => q.1)) hx1) rfl rfl ?_; rintro _ B12 ⟨_, cr12, hcr12, hgb, rfl, rfl⟩; have hl12 := HdrRd.len _ _ hcr12; refine Z20 (M' := (some bt, blk (Ow.cs (Ow.mk lO obO dO rO cO oi2 ci2 ([.bool false, sl (some b82) 0 1 1, .slice none 0 0] ++ ri2) its) ++ rT) 25) :: (some b82, blk [.int .u8 164] 5) :: (Ow.ents 25 (Ow.mk lO obO dO rO cO oi2 ci2 ([.bool false, sl (some b82) 0 1 1, .slice none 0 0] ++ ri2) its) ++ (B12 ++ ((some b26, blk (u8s (a0 ++ List.replicate 9 0#8)) 5) :: (some b3, blk cs1_ 25) :: N)))) (fun w m => m.chunk [B12, [(some bt, blk (Ow.cs (Ow.mk lO obO dO rO cO oi2 ci2 ([.bool false, sl (some b82) 0 1 1, .slice none 0 0] ++ ri2) its) ++ rT) 25)], [(some b82, blk [.int .u8 164] 5)], Ow.ents 25 (Ow.mk lO obO dO rO cO oi2 ci2 ([.bool false, sl (some b82) 0 1 1, .slice none 0 0] ++ ri2) its), ((some b26, blk (u8s (a0 ++ List.replicate 9 0#8)) 5) :: (some b3, blk cs1_ 25) :: N)] [1, 2, 3, 0, 4] rfl (by simp) (by simp)) ?_
 refine Z0 (Z3 rfl) rfl (Z0 (Z17 rfl rfl) rfl (Z0 (Z17 rfl rfl) rfl (OW.alloc (l := (Hdr.zero.C none 0).C) rfl Z121 rfl (fun b12 => (Z28 (Z105 rfl rfl rfl (HdrRd.one _ _ hcr12) rfl Z111 hl12) (Z0 (Z5 rfl) rfl (Z6 ?_)))))))
 (refine Z1 ?_; refine Z4 ?_)
 refine Z2 ?_
 refine Z20 (M' := (some b3, blk cs1_ 25) :: (some b12, blk cr12 38) :: (some bt, blk (Ow.cs (Ow.mk lO obO dO rO cO oi2 ci2 ([.bool false, sl (some b82) 0 1 1, .slice none 0 0] ++ ri2) its) ++ rT) 25) :: (some b82, blk [.int .u8 164] 5) :: (Ow.ents 25 (Ow.mk lO obO dO rO cO oi2 ci2 ([.bool false, sl (some b82) 0 1 1, .slice none 0 0] ++ ri2) its) ++ (B12 ++ ((some b26, blk (u8s (a0 ++ List.replicate 9 0#8)) 5) :: N)))) (fun w m => m.chunk [[(some b12, blk cr12 38)], [(some bt, blk (Ow.cs (Ow.mk lO obO dO rO cO oi2 ci2 ([.bool false, sl (some b82) 0 1 1, .slice none 0 0] ++ ri2) its) ++ rT) 25)], [(some b82, blk [.int .u8 164] 5)], Ow.ents 25 (Ow.mk lO obO dO rO cO oi2 ci2 ([.bool false, sl (some b82) 0 1 1, .slice none 0 0] ++ ri2) its), B12, [(some b26, blk (u8s (a0 ++ List.replicate 9 0#8)) 5)], [(some b3, blk cs1_ 25)], N] [6, 0, 1, 2, 3, 4, 5, 7] rfl (by simp) (by simp)) ?_; refine Z0 (Z22 rfl Zh rfl rfl rfl rfl hcl1) rfl ?_
 refine Z12 Tryd.call17 rfl (waybillref19_Parse_does w0 Φ ((some b3, blk cs1_ 25) :: (some b12, blk cr12 38) :: (some bt, blk (Ow.cs (Ow.mk lO obO dO rO cO oi2 ci2 ([.bool false, sl (some b82) 0 1 1, .slice none 0 0] ++ ri2) its) ++ rT) 25) :: (some b82, blk [.int .u8 164] 5) :: (Ow.ents 25 (Ow.mk lO obO dO rO cO oi2 ci2 ([.bool false, sl (some b82) 0 1 1, .slice none 0 0] ++ ri2) its) ++ (B12 ++ ((some b26, blk (u8s (a0 ++ List.replicate 9 0#8)) 5) :: N)))) (fun w m => hΦ w ((m.drop 4).appR.appR.tail)) cs1_ a1 x g ha1 hx2) rfl rfl ?_; rintro _ B14 ⟨_, cr14, hcr14, _, rfl, rfl⟩; have hl14 := HdrRd.len _ _ hcr14; refine Z20 (M' := (some b12, blk cr12 38) :: (some bt, blk (Ow.cs (Ow.mk lO obO dO rO cO oi2 ci2 ([.bool false, sl (some b82) 0 1 1, .slice none 0 0] ++ ri2) its) ++ rT) 25) :: (some b82, blk [.int .u8 164] 5) :: (obO, blk (u8s dO ++ rO) 5) :: (oi2, blk (Ows.cs its ++ ([.bool false, sl (some b82) 0 1 1, .slice none 0 0] ++ ri2)) 25) :: (Ows.ents 25 its ++ (B14 ++ (B12 ++ ((some b26, blk (u8s (a0 ++ List.replicate 9 0#8)) 5) :: (some b3, blk cs1_ 25) :: N))))) (fun w m => by rw [Ow.ents] at m; exact m.chunk [B14, [(some b3, blk cs1_ 25)], [(some b12, blk cr12 38)], [(some bt, blk (Ow.cs (Ow.mk lO obO dO rO cO oi2 ci2 ([.bool false, sl (some b82) 0 1 1, .slice none 0 0] ++ ri2) its) ++ rT) 25)], [(some b82, blk [.int .u8 164] 5)], [(obO, blk (u8s dO ++ rO) 5)], [(oi2, blk (Ows.cs its ++ ([.bool false, sl (some b82) 0 1 1, .slice none 0 0] ++ ri2)) 25)], Ows.ents 25 its, B12, [(some b26, blk (u8s (a0 ++ List.replicate 9 0#8)) 5)], N] [2, 3, 4, 5, 6, 7, 0, 8, 9, 1, 10] rfl (by simp) (by simp)) ?_
 refine Z0 (Z3 rfl) rfl (Z0 (Z17 rfl rfl) rfl (Z0 (Z17 rfl rfl) rfl (OW.alloc (l := (Hdr.zero.C none 0).C) rfl Z121 rfl (fun b14 => (Z28 (Z105 rfl rfl rfl (HdrRd.one _ _ hcr14) rfl Z111 hl14) (Z0 (Z5 rfl) rfl (Z6 ?_)))))))
 (refine Z1 ?_; refine Z4 ?_; refine Z4 ?_)
 have hR12 : HdrRd (fun w => (Φ w ∧ Mem w0 w (Ow.ents 25 (Ow.mk lO obO dO rO cO oi2 ci2 ([.bool false, sl (some b82) 0 1 1, .slice none 0 0] ++ ri2) its))) ∧ Mem w0 w (B14 ++ B12)) cr12 x := HdrRd.mono (fun w q => ⟨q.1, q.2.appR⟩) _ _ hcr12
 have hR14 : HdrRd (fun w => (Φ w ∧ Mem w0 w (Ow.ents 25 (Ow.mk lO obO dO rO cO oi2 ci2 ([.bool false, sl (some b82) 0 1 1, .slice none 0 0] ++ ri2) its))) ∧ Mem w0 w (B14 ++ B12)) cr14 x := HdrRd.mono (fun w q => ⟨q.1.1, q.2.appL⟩) _ _ hcr14
 have hΨ13 : ∀ w, Mem w0 w ((some b14, blk cr14 38) :: (some b12, blk cr12 38) :: (some bt, blk (Ow.cs (Ow.mk lO obO dO rO cO oi2 ci2 ([.bool false, sl (some b82) 0 1 1, .slice none 0 0] ++ ri2) its) ++ rT) 25) :: (some b82, blk [.int .u8 164] 5) :: (obO, blk (u8s dO ++ rO) 5) :: (oi2, blk (Ows.cs its ++ ([.bool false, sl (some b82) 0 1 1, .slice none 0 0] ++ ri2)) 25) :: (Ows.ents 25 its ++ (B14 ++ (B12 ++ ((some b26, blk (u8s (a0 ++ List.replicate 9 0#8)) 5) :: (some b3, blk cs1_ 25) :: N))))) → ((Φ w ∧ Mem w0 w (Ow.ents 25 (Ow.mk lO obO dO rO cO oi2 ci2 ([.bool false, sl (some b82) 0 1 1, .slice none 0 0] ++ ri2) its))) ∧ Mem w0 w (B14 ++ B12)) := fun w m => ⟨⟨hΦ w ((m.drop 6).appR.appR.appR.drop 2), by rw [Ow.ents]; exact (m.drop 4 : Mem w0 w (((obO, blk (u8s dO ++ rO) 5) :: (oi2, blk (Ows.cs its ++ ([.bool false, sl (some b82) 0 1 1, .slice none 0 0] ++ ri2)) 25) :: Ows.ents 25 its) ++ (B14 ++ (B12 ++ ((some b26, blk (u8s (a0 ++ List.replicate 9 0#8)) 5) :: (some b3, blk cs1_ 25) :: N))))).appL⟩, m.chunk [(some b14, blk cr14 38) :: (some b12, blk cr12 38) :: (some bt, blk (Ow.cs (Ow.mk lO obO dO rO cO oi2 ci2 ([.bool false, sl (some b82) 0 1 1, .slice none 0 0] ++ ri2) its) ++ rT) 25) :: (some b82, blk [.int .u8 164] 5) :: (obO, blk (u8s dO ++ rO) 5) :: (oi2, blk (Ows.cs its ++ ([.bool false, sl (some b82) 0 1 1, .slice none 0 0] ++ ri2)) 25) :: Ows.ents 25 its, B14, B12, ((some b26, blk (u8s (a0 ++ List.replicate 9 0#8)) 5) :: (some b3, blk cs1_ 25) :: N)] [1, 2] rfl (by simp) (by simp)⟩
 have hRP2 : ItRd (fun w => (Φ w ∧ Mem w0 w (Ow.ents 25 (Ow.mk lO obO dO rO cO oi2 ci2 ([.bool false, sl (some b82) 0 1 1, .slice none 0 0] ++ ri2) its))) ∧ Mem w0 w (B14 ++ B12)) (Ow.cs (Ow.mk lO obO dO rO cO oi2 ci2 ([.bool false, sl (some b82) 0 1 1, .slice none 0 0] ++ ri2) its)) a1 := ItRd.mono (fun w q => q.1) _ _ hRP
 have ha12 : ItRd (fun w => (Φ w ∧ Mem w0 w (Ow.ents 25 (Ow.mk lO obO dO rO cO oi2 ci2 ([.bool false, sl (some b82) 0 1 1, .slice none 0 0] ++ ri2) its))) ∧ Mem w0 w (B14 ++ B12)) cs1_ a1 := ItRd.mono (fun w q => q.1.1) _ _ ha1
 have hsx := hsame_refl x
 have hsi := Same_refl a1
 have hso2 := o2.some_of (by decide) (i := its.length) (by omega)
 have hle3 := o2.le (by decide)
 have heq1 := equal_refl [164#8]
 have hmk : (Ows.cs its ++ ([.bool false, sl (some b82) 0 1 1, .slice none 0 0] ++ ri2))[0 + its.length * 3 + 1]? = some (sl (some b82) 0 1 1) := by
  have h1 := Ows.cs_length its
  rw [List.getElem?_append_right (by omega), show 0 + its.length * 3 + 1 - (Ows.cs its).length = 1 by omega]; rfl
 refine Z124 34 mixed (by kernel_rfl) rfl (Z18 0 rfl (by kernel_rfl) rfl (Z3 rfl) rfl (Z18 2 rfl (by kernel_rfl) rfl (Z3 rfl) rfl (Z25 1 rfl (by kernel_rfl) rfl Tryd.call12 rfl (fun N' hN' => Z140 w0 (fun _ => True) N' (fun _ _ => trivial) (g : Int) (g : Int) (by omega) rfl) rfl ?_)))
 rintro _ G1 ⟨_, rfl⟩
 refine UW.mem (M' := (some b14, blk cr14 38) :: (some b12, blk cr12 38) :: (some bt, blk (Ow.cs (Ow.mk lO obO dO rO cO oi2 ci2 ([.bool false, sl (some b82) 0 1 1, .slice none 0 0] ++ ri2) its) ++ rT) 25) :: (some b82, blk [.int .u8 164] 5) :: (obO, blk (u8s dO ++ rO) 5) :: (oi2, blk (Ows.cs its ++ ([.bool false, sl (some b82) 0 1 1, .slice none 0 0] ++ ri2)) 25) :: (Ows.ents 25 its ++ (B14 ++ (B12 ++ ((some b26, blk (u8s (a0 ++ List.replicate 9 0#8)) 5) :: (some b3, blk cs1_ 25) :: N))))) (fun w m => m.appR) (Z18 3 rfl (by kernel_rfl) rfl (RV.neq_f rfl rfl rfl) rfl (Z18 4 rfl (by kernel_rfl) rfl (Z3 rfl) rfl (Z18 5 rfl (by kernel_rfl) rfl (Z22 rfl (List.Mem.tail _ Zh) rfl rfl rfl rfl hl12) rfl (Z18 6 rfl (by kernel_rfl) rfl (Z22 rfl Zh rfl rfl rfl rfl hl14) rfl (Z25 7 rfl (by kernel_rfl) rfl Tryd.call13 rfl (fun N' hN' => Z137 w0 _ N' (fun w m => hΨ13 w (hN' w m)) _ x _ x true hR12 hR14 hsx) rfl ?_)))))
 rintro _ G1 rfl
 refine UW.mem (M' := (some b14, blk cr14 38) :: (some b12, blk cr12 38) :: (some bt, blk (Ow.cs (Ow.mk lO obO dO rO cO oi2 ci2 ([.bool false, sl (some b82) 0 1 1, .slice none 0 0] ++ ri2) its) ++ rT) 25) :: (some b82, blk [.int .u8 164] 5) :: (obO, blk (u8s dO ++ rO) 5) :: (oi2, blk (Ows.cs its ++ ([.bool false, sl (some b82) 0 1 1, .slice none 0 0] ++ ri2)) 25) :: (Ows.ents 25 its ++ (B14 ++ (B12 ++ ((some b26, blk (u8s (a0 ++ List.replicate 9 0#8)) 5) :: (some b3, blk cs1_ 25) :: N))))) (fun w m => m.appR) (Z18 8 rfl (by kernel_rfl) rfl (RV.not rfl) rfl (Z18 9 rfl (by kernel_rfl) rfl (Z110 rfl rfl rfl) rfl (Z18 10 rfl (by kernel_rfl) rfl (Z3 rfl) rfl (Z18 11 rfl (by kernel_rfl) rfl (Z3 rfl) rfl (Z18 12 rfl (by kernel_rfl) rfl (Z139 0 rfl rfl rfl rfl rfl rfl (by simp)) rfl (Z18 13 rfl (by kernel_rfl) rfl (Z114 rfl (List.Mem.tail _ (List.Mem.tail _ Zh)) rfl rfl rfl rfl hldT rfl) rfl (Z18 14 rfl (by kernel_rfl) rfl (Z22 rfl (List.mem_append_right ((some b14, blk cr14 38) :: (some b12, blk cr12 38) :: (some bt, blk (Ow.cs (Ow.mk lO obO dO rO cO oi2 ci2 ([.bool false, sl (some b82) 0 1 1, .slice none 0 0] ++ ri2) its) ++ rT) 25) :: (some b82, blk [.int .u8 164] 5) :: (obO, blk (u8s dO ++ rO) 5) :: [(oi2, blk (Ows.cs its ++ ([.bool false, sl (some b82) 0 1 1, .slice none 0 0] ++ ri2)) 25)]) (List.mem_append_right _ (List.mem_append_right _ (List.mem_append_right _ (List.Mem.tail _ Zh))))) rfl rfl rfl rfl hcl1) rfl ?_)))))))
 refine Z25 15 rfl (by kernel_rfl) rfl Tryd.call18 rfl (fun N' hN' => waybillref07_Same_does w0 _ N' (fun w m => hΨ13 w (hN' w m)) _ a1 _ a1 true hRP2 ha12 hsi) rfl ?_
 rintro _ G1 rfl
 refine UW.mem (M' := (some b14, blk cr14 38) :: (some b12, blk cr12 38) :: (some bt, blk (Ow.cs (Ow.mk lO obO dO rO cO oi2 ci2 ([.bool false, sl (some b82) 0 1 1, .slice none 0 0] ++ ri2) its) ++ rT) 25) :: (some b82, blk [.int .u8 164] 5) :: (obO, blk (u8s dO ++ rO) 5) :: (oi2, blk (Ows.cs its ++ ([.bool false, sl (some b82) 0 1 1, .slice none 0 0] ++ ri2)) 25) :: (Ows.ents 25 its ++ (B14 ++ (B12 ++ ((some b26, blk (u8s (a0 ++ List.replicate 9 0#8)) 5) :: (some b3, blk cs1_ 25) :: N))))) (fun w m => m.appR) (Z18 16 rfl (by kernel_rfl) rfl (RV.not rfl) rfl (Z18 17 rfl (by kernel_rfl) rfl (Z110 rfl rfl rfl) rfl (Z18 18 rfl (by kernel_rfl) rfl (Z3 rfl) rfl (Z18 19 rfl (by kernel_rfl) rfl (Z3 rfl) rfl (Z18 20 rfl (by kernel_rfl) rfl (Z139 0 rfl rfl rfl rfl rfl rfl (by simp)) rfl (Z18 21 rfl (by kernel_rfl) rfl (Z30 rfl rfl rfl rfl) rfl (Z18 22 rfl (by kernel_rfl) rfl (Z29 rfl (List.Mem.tail _ (List.Mem.tail _ Zh)) rfl rfl rfl rfl) rfl ?_)))))))
 refine Z18 23 rfl (by kernel_rfl) rfl (Z3 rfl) rfl (Z18 24 rfl (by kernel_rfl) rfl (RV.add rfl rfl (by omega)) rfl (Z18 25 rfl (by kernel_rfl) rfl (RV.cut_o (its.length + 1) rfl rfl (by omega) rfl rfl (by omega)) rfl (Z18 26 rfl (by kernel_rfl) rfl (Z3 rfl) rfl (Z18 27 rfl (by kernel_rfl) rfl (Z139 its.length rfl rfl (by omega) rfl rfl hso2 (by omega)) rfl (Z18 28 rfl (by kernel_rfl) rfl (Z30 rfl rfl rfl rfl) rfl (Z18 29 rfl (by kernel_rfl) rfl (Z29 rfl (List.Mem.tail _ (List.Mem.tail _ (List.Mem.tail _ (List.Mem.tail _ (List.Mem.tail _ Zh))))) hso2 rfl rfl hmk) rfl (UW.new 30 rfl (by kernel_rfl) rfl (NV.bs1 rfl rfl rfl rfl rfl rfl) rfl (fun b132 => ?_))))))))
 have hv132 : View (fun w => Mem w0 w [(some b132, blk [.int .u8 164] 5), (some b82, blk [.int .u8 164] 5)]) (some ⟨b132, 0, none⟩) [164#8].length 1 1 (u8s [164#8]) := ⟨fun w q => q.rdl (l := u8s [164#8]) (List.mem_cons_self ..) (fun e => nomatch e), fun _ => rfl, rfl, by simp, by simp⟩
 have hv82 : View (fun w => Mem w0 w [(some b132, blk [.int .u8 164] 5), (some b82, blk [.int .u8 164] 5)]) (some ⟨b82, 0, none⟩) [164#8].length 1 1 (u8s [164#8]) := ⟨fun w q => q.rdl (l := u8s [164#8]) (List.mem_cons_of_mem _ (List.mem_cons_self ..)) (fun e => nomatch e), fun _ => rfl, rfl, by simp, by simp⟩
 refine Z25 31 rfl (by kernel_rfl) rfl Tryd.call14 rfl (fun N' hN' => Z136 w0 _ N' (fun w m => ((hN' w m).pick [0, 4] 5 rfl rfl : Mem w0 w ((some b132, blk [.int .u8 164] 5) :: (some b82, blk [.int .u8 164] 5) :: ((obO, blk (u8s dO ++ rO) 5) :: (oi2, blk (Ows.cs its ++ ([.bool false, sl (some b82) 0 1 1, .slice none 0 0] ++ ri2)) 25) :: (Ows.ents 25 its ++ (B14 ++ (B12 ++ ((some b26, blk (u8s (a0 ++ List.replicate 9 0#8)) 5) :: (some b3, blk cs1_ 25) :: N))))))).sublist (List.Sublist.cons_cons _ (List.Sublist.cons_cons _ (List.nil_sublist _)))) _ 1 [164#8] _ 1 [164#8] true hv82 hv132 heq1) rfl ?_
 rintro _ G1 rfl
 refine UW.mem (M' := (some b14, blk cr14 38) :: (some b12, blk cr12 38) :: (some bt, blk (Ow.cs (Ow.mk lO obO dO rO cO oi2 ci2 ([.bool false, sl (some b82) 0 1 1, .slice none 0 0] ++ ri2) its) ++ rT) 25) :: (some b82, blk [.int .u8 164] 5) :: (obO, blk (u8s dO ++ rO) 5) :: (oi2, blk (Ows.cs its ++ ([.bool false, sl (some b82) 0 1 1, .slice none 0 0] ++ ri2)) 25) :: (Ows.ents 25 its ++ (B14 ++ (B12 ++ ((some b26, blk (u8s (a0 ++ List.replicate 9 0#8)) 5) :: (some b3, blk cs1_ 25) :: N))))) (fun w m => m.appR.tail) (Z18 32 rfl (by kernel_rfl) rfl (RV.not rfl) rfl (Z18 33 rfl (by kernel_rfl) rfl (Z110 rfl rfl rfl) rfl (UW.nil (by kernel_rfl) (Z6 (Z1 (Z14 rfl rfl ?_))))))
 (refine CW.skip ?_; refine Z1 ?_; refine Z4 ?_; refine Z4 ?_)
 refine Z2 (Z0 (Z5 rfl) rfl (Z6 ?_))
 (refine Z1 ?_; refine CW.block ?_)
 refine Z138 (fun k L' M' => ∃ (i : Nat) (gg : List (BitVec 8)), k = a0.length - i ∧ i ≤ a0.length ∧ gg.length = a0.length + 9 ∧ L' = [(0, .slice A0_ a0.length c0_), (5, sl (some b26) 0 (a0.length + 9) (a0.length + 9)), (16, .int .i64 (i : Int))] ∧ M' = (some b26, blk (u8s gg) 5) :: N) (k0 := a0.length) ⟨0, a0 ++ List.replicate 9 0#8, rfl, by omega, by simp, rfl, rfl⟩ ⟨rfl, rfl, rfl, trivial⟩ (fun w m => m.chunk [(some b14, blk cr14 38) :: (some b12, blk cr12 38) :: (some bt, blk (Ow.cs (Ow.mk lO obO dO rO cO oi2 ci2 ([.bool false, sl (some b82) 0 1 1, .slice none 0 0] ++ ri2) its) ++ rT) 25) :: (some b82, blk [.int .u8 164] 5) :: (obO, blk (u8s dO ++ rO) 5) :: (oi2, blk (Ows.cs its ++ ([.bool false, sl (some b82) 0 1 1, .slice none 0 0] ++ ri2)) 25) :: Ows.ents 25 its, B14, B12, [(some b26, blk (u8s (a0 ++ List.replicate 9 0#8)) 5)], [(some b3, blk cs1_ 25)], N] [3, 5] rfl (by simp) (by simp)) ?_
 rintro k L' M' ⟨i, gg, rfl, hi, hgl, rfl, rfl⟩
 (refine Z4 ?_; refine Z4 ?_)
 refine Z2 (Z0 (Z3 rfl) rfl (Z0 (Z3 rfl) rfl (Z0 (RV.len rfl rfl) rfl (Z0 (RV.lss rfl rfl) rfl (Z6 (Z1 ?_))))))
 by_cases hlt : i < a0.length
 ·refine Z13 rfl (decide_eq_true (by omega)) ?_
  have hy : gg[i]? = some gg[i] := List.getElem?_eq_getElem (by omega)
  (refine CW.skip ?_; refine Z1 ?_; refine Z4 ?_; refine CW.block ?_)
  refine Z2 (Z0 (Z3 rfl) rfl (Z0 (Z3 rfl) rfl (Z0 (Z3 rfl) rfl (Z0 (Z3 rfl) rfl (Z0 (RV.idx_o i rfl rfl rfl rfl rfl rfl (by omega)) rfl ?_)))))
  refine Z0 (Z29 rfl Zh rfl rfl rfl (by rw [Nat.zero_add]; exact u8s_at hy)) rfl ?_
  refine Z0 (RV.xor8 rfl rfl rfl (lit8 _ rfl)) rfl (Z0 (RV.idx_o i rfl rfl rfl rfl rfl rfl (by omega)) rfl ?_)
  refine Z28 (SV.store rfl rfl rfl rfl rfl (by rw [Z100]; omega)) ?_; refine OW.cells (u8s (gg.set i (gg[i] ^^^ 255#8))) (by rw [Nat.zero_add]; exact u8s_set' ..) ?_
  refine Z6 ?_
  (refine Z27 ?_; refine Z1 ?_)
  refine Z2 (Z0 (Z3 rfl) rfl (Z0 (RV.add rfl rfl (by omega)) rfl (Z0 (Z5 rfl) rfl (Z6 ?_))))
  refine Z131 (k' := a0.length - (i + 1)) (by omega) ⟨i + 1, gg.set i (gg[i] ^^^ 255#8), rfl, by omega, by rw [List.length_set]; exact hgl, rfl, rfl⟩ ⟨rfl, rfl, rfl, trivial⟩ (fun w m => m)
 ·refine Z14 rfl (decide_eq_false (by omega)) ?_
  have hgt : (gg.take a0.length).length = a0.length := by rw [List.length_take]; omega
  have hvX : View (fun w => Φ w ∧ Mem w0 w [(some b26, blk (u8s gg) 5)]) (some ⟨b26, 0, none⟩) (gg.take a0.length).length (a0.length + 9) 1 (u8s (gg.take a0.length)) := ⟨fun w q => by
   have q2 := q.2
   rw [← List.take_append_drop a0.length gg, ← u8s_app] at q2
   exact q2.rd0 (List.mem_cons_self ..) (fun e => nomatch e), fun _ => rfl, by rw [Z100]; omega, by omega, by omega⟩
  obtain ⟨h2, e2, hd3, hd4⟩ := hdecode_both (gg.take a0.length)
  (refine CW.exit ?_; refine Z9 ?_; refine Z9 ?_; refine Z15 ?_; refine Z1 ?_; refine Z4 ?_)
  refine Z2 (Z0 (Z3 rfl) rfl (Z0 (Z3 rfl) rfl (Z0 (RV.len rfl rfl) rfl ?_)))
  refine Z0 (RV.cut_o a0.length rfl rfl rfl rfl rfl (by omega)) rfl ?_; refine Z7 (.slice (some ⟨b26, 0, none⟩) (gg.take a0.length).length (a0.length + 9)) (by rw [hgt]; rfl) ?_
  refine Z12 Tryd.call10 rfl (header_Decode_does w0 _ ((some b26, blk (u8s gg) 5) :: N) (fun w m => ⟨hΦ w m.tail, m.sublist (List.singleton_sublist.2 (List.mem_cons_self ..))⟩) _ _ _ h2 e2 hvX (hg0.mono (fun w q => q.1)) hd3) rfl rfl ?_; rintro _ B17 ⟨_, cr17, hcr17, hk17, rfl, rfl⟩; have hl17 := HdrRd.len _ _ hcr17; refine Z20 (M' := (some b26, blk (u8s gg) 5) :: (B17 ++ N)) (fun w m => m.sk0) ?_
  refine Z0 (Z3 rfl) rfl (Z0 (Z17 rfl rfl) rfl (Z0 (Z17 rfl rfl) rfl (OW.alloc (l := (Hdr.zero.C none 0).C) rfl Z121 rfl (fun b17 => (Z28 (Z105 rfl rfl rfl (HdrRd.one _ _ hcr17) rfl Z111 hl17) (Z0 (Z5 rfl) rfl (Z6 ?_)))))))
  (refine Z1 ?_; refine Z4 ?_)
  refine Z2 (Z0 (Z3 rfl) rfl (Z0 (Z3 rfl) rfl (Z0 (RV.len rfl rfl) rfl ?_)))
  refine Z0 (RV.cut_o a0.length rfl rfl rfl rfl rfl (by omega)) rfl ?_; refine Z7 (.slice (some ⟨b26, 0, none⟩) (gg.take a0.length).length (a0.length + 9)) (by rw [hgt]; rfl) ?_
  refine Z12 Tryd.call11 rfl (Z145 w0 _ ((some b17, blk cr17 38) :: (some b26, blk (u8s gg) 5) :: (B17 ++ N)) (fun w m => ⟨hΦ w (m.drop 2).appR, m.tail.sublist (List.singleton_sublist.2 (List.mem_cons_self ..))⟩) _ _ _ h2 e2 hvX hd4) rfl rfl ?_; rintro _ B19 ⟨_, cr19, hcr19, _, rfl, rfl⟩; have hl19 := HdrRd.len _ _ hcr19; refine Z20 (M' := (some b17, blk cr17 38) :: (some b26, blk (u8s gg) 5) :: (B19 ++ (B17 ++ N))) (fun w m => m.sk0.sk1) ?_
  refine Z0 (Z3 rfl) rfl (Z0 (Z17 rfl rfl) rfl (Z0 (Z17 rfl rfl) rfl (OW.alloc (l := (Hdr.zero.C none 0).C) rfl Z121 rfl (fun b19 => (Z28 (Z105 rfl rfl rfl (HdrRd.one _ _ hcr19) rfl Z111 hl19) (Z0 (Z5 rfl) rfl (Z6 ?_)))))))
  (refine Z1 ?_; refine Z4 ?_)
  have hR17 : HdrRd (fun w => (Φ w ∧ Mem w0 w [(some b26, blk (u8s gg) 5)]) ∧ Mem w0 w (B19 ++ B17)) cr17 h2 := HdrRd.mono (fun w q => ⟨q.1, q.2.appR⟩) _ _ hcr17
  have hR19 : HdrRd (fun w => (Φ w ∧ Mem w0 w [(some b26, blk (u8s gg) 5)]) ∧ Mem w0 w (B19 ++ B17)) cr19 h2 := HdrRd.mono (fun w q => ⟨q.1, q.2.appL⟩) _ _ hcr19
  have hΨ19 : ∀ w, Mem w0 w ((some b19, blk cr19 38) :: (some b17, blk cr17 38) :: (some b26, blk (u8s gg) 5) :: (B19 ++ (B17 ++ N))) → ((Φ w ∧ Mem w0 w [(some b26, blk (u8s gg) 5)]) ∧ Mem w0 w (B19 ++ B17)) := fun w m => ⟨⟨hΦ w (m.drop 3).appR.appR, (m.drop 2).sublist (List.singleton_sublist.2 (List.mem_cons_self ..))⟩, m.chunk [(some b19, blk cr19 38) :: (some b17, blk cr17 38) :: [(some b26, blk (u8s gg) 5)], B19, B17, N] [1, 2] rfl (by simp) (by simp)⟩
  have hs19 := hsame_refl h2
  refine Z2 (Z0 (Z3 rfl) rfl ?_)
  refine Z12 Tryd.call12 rfl (Z140 w0 (fun _ => True) ((some b19, blk cr19 38) :: (some b17, blk cr17 38) :: (some b26, blk (u8s gg) 5) :: (B19 ++ (B17 ++ N))) (fun _ _ => trivial) (e2 : Int) (e2 : Int) (by omega) rfl) rfl rfl ?_; rintro _ G1 ⟨_, rfl⟩; refine Z20 (M' := (some b19, blk cr19 38) :: (some b17, blk cr17 38) :: (some b26, blk (u8s gg) 5) :: (B19 ++ (B17 ++ N))) (fun w m => m.appR) ?_
  refine Z0 (Z3 rfl) rfl (Z0 (RV.eql_t rfl rfl rfl) rfl (Z0 (Z3 rfl) rfl ?_))
  refine Z24 rfl ?_; refine Z0 (Z22 rfl (List.Mem.tail _ Zh) rfl rfl rfl rfl hl17) rfl ?_
  refine Z24 rfl ?_; refine Z0 (Z22 rfl Zh rfl rfl rfl rfl hl19) rfl ?_
  refine Z24 rfl ?_; refine Z12 Tryd.call13 rfl (Z137 w0 _ ((some b19, blk cr19 38) :: (some b17, blk cr17 38) :: (some b26, blk (u8s gg) 5) :: (B19 ++ (B17 ++ N))) hΨ19 _ h2 _ h2 true hR17 hR19 hs19) rfl rfl ?_; rintro _ G1 rfl; refine Z20 (M' := (some b19, blk cr19 38) :: (some b17, blk cr17 38) :: (some b26, blk (u8s gg) 5) :: (B19 ++ (B17 ++ N))) (fun w m => m.appR) ?_
  refine Z0 (Z108 rfl rfl rfl) rfl (Z0 (Z5 rfl) rfl (Z6 ?_))
  (refine Z1 ?_; refine CW.ret ?_)
  refine Z106 (rs := [.tmp 4]) [.bool true] [] rfl ⟨rfl, trivial⟩ rfl rfl (fun w m => (m.drop 3).appR.appR) _ (.inl rfl)
end Go.Fw.Tryd
namespace Go.Fw
open Go
theorem bulk_len {H : Type} (ub : DataW H → Nat) (uba : List (DataW H) → Nat) (h0 : uba [] = 0) (h1 : ∀ d r, uba (d :: r) = ub d + uba r) (h2 : ∀ el sp, ub (.slice el sp) = uba el + uba sp + 1) (hp : ∀ d : DataW H, 1 ≤ ub d)
    {d : DataW H} {el sp : List (DataW H)} (he : Els d el sp) : el.length ≤ ub d := by
 have hlen : ∀ l : List (DataW H), l.length ≤ uba l := fun l => by
  induction l with
  | nil => simp
  | cons x r ih => rw [h1]; have := hp x; simp; omega
 rcases he with ⟨_, rfl, _⟩ | rfl
 ·simp
 ·rw [h2]; have := hlen el; omega
end Go.Fw
namespace Go.Fw
open Go
structure BulkFn {H : Type} (ub : DataW H → Nat) (uba : List (DataW H) → Nat) : Prop where
 h0 : uba [] = 0
 h1 : ∀ d r, uba (d :: r) = ub d + uba r
 hs : ∀ el sp, ub (.slice el sp) = uba el + uba sp + 1
 ha : ∀ l, ub (.agg l) = uba l + 1
 hp : ∀ d : DataW H, 1 ≤ ub d
namespace BulkFn
variable {H : Type} {ub : DataW H → Nat} {uba : List (DataW H) → Nat} (B : BulkFn ub uba)
include B
theorem mem {d : DataW H} : ∀ {l : List (DataW H)}, d ∈ l → ub d ≤ uba l
 | x :: l, h => by
  rw [B.h1]
  rcases List.mem_cons.1 h with rfl | h
  ·omega
  ·have := mem h; omega
theorem len {d : DataW H} {el sp : List (DataW H)} (h : Els d el sp) : el.length ≤ ub d := bulk_len ub uba B.h0 B.h1 B.hs B.hp h
end BulkFn
end Go.Fw
