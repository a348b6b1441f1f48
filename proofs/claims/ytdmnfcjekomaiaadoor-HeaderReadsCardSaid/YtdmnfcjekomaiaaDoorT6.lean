/- Part of a proof: rules that its law uses. -/
import Derived.Test.YtdmnfcjekomaiaaDoorT5
set_option linter.unusedVariables false
set_option linter.unusedSimpArgs false
set_option linter.unusedSectionVars false
set_option maxRecDepth 100000
set_option maxHeartbeats 1000000
namespace Go.Fw.Tryd
open Go Go.Proofs Go.Fw
abbrev Zc : List Value := [.bool false, .slice none 0 0, .slice none 0 0]
abbrev DecR (w0 : World) (Φ : Ctx) (res0 : It) (res1 : Nat) : Value → List Ent → Prop := fun v G => ∃ B : List Ent, ∃ cr0 : List Value, (ItRd (More w0 Φ B) cr0 res0) ∧ (res1 ≤ 9223372036854775807) ∧ v = .tuple #[.agg cr0.toArray, .int .i64 ((res1 : Nat) : Int)] ∧ G = B
abbrev DecQ (w0 : World) (Φ : Ctx) (N : List Ent) (res0 : It) (res1 : Nat) := bodyPost Tryd.prog Tryd.f39 (EndsJ w0 (fun v M' => ∃ G, DecR w0 Φ res0 res1 v G ∧ M' = G ++ N))
def JD (w0 : World) (Φ : Ctx) (N : List Ent) (res0 : It) (res1 : Nat) : Nat → Nat → Z118 → List Ent → Prop
 | 0, _, L, M => ∃ b2 : Nat, res0 = It.zero ∧ res1 ≤ 9223372036854775807 ∧ L = [(2, ptr (some b2) 0), (9, .int .i64 ((res1 : Nat) : Int))] ∧ M = (some b2, blk Zc 25) :: N
 | l + 1, k, L, M => ∃ (b : List (BitVec 8)) (A : Option Addr) (c : Nat) (F : List Frm) (B : List Ent) (ob4 : Option Nat) (c4 : Nat) (r4 : List Value) (b5 : Nat) (cs5 : List Value) (b2 : Nat) (it : It),
   dec k (l + 1) b it (F.map Frm.pure) = some (res0, res1) ∧ (l = 1 → ItRd (More w0 Φ B) cs5 it) ∧ View (More w0 Φ B) A b.length c 1 (u8s b) ∧ (∀ f ∈ F, f.Ok (More w0 Φ B)) ∧ OwnS ob4 F.length c4 2 (stC F) r4 ∧ cs5.length = 3 ∧
   L = [(0, .slice A b.length c), (2, ptr (some b2) 0), (4, sl ob4 0 F.length c4), (5, ptr (some b5) 0)] ∧
   M = (ob4, blk (stC F ++ r4) 136) :: (some b5, blk cs5 25) :: (some b2, blk Zc 25) :: (F.map (Frm.ent 25) ++ (B ++ N))
theorem toBroken {w0 w : World} {s c5 c2 : Ent} {X B N : List Ent} (m : Mem w0 w (s :: c5 :: c2 :: (X ++ (B ++ N)))) : Mem w0 w (c2 :: N) :=
 m.tail.tail.sublist (List.Sublist.cons_cons _ ((List.sublist_append_right _ _).trans (List.sublist_append_right _ _)))
theorem dec_w3 (w0 : World) (Φ : Ctx) (N : List Ent) (hΦ : ∀ w, Mem w0 w N → Φ w) (res0 : It) (res1 : Nat) (k m : Nat) (hkm : k ≤ m) (L : Z118) (M : List Ent) (h : JD w0 Φ N res0 res1 3 k L M) :
  CW Tryd.prog 105 (JumpJ 105 w0 (JD w0 Φ N res0 res1) m (DecQ w0 Φ N res0 res1)) w0 (afterL (scopeOf Tryd.f39.body) 3) L M := by
 obtain ⟨b, A, c, F, B, ob4, c4, r4, b5, cs5, b2, it, hf, -, vb, hF, o4, h5, rfl, rfl⟩ := h
 rcases k with _ | k
 ·rw [dec] at hf; cases hf
 replace hf : dec (k + 1) 3 b it _ = _ := hf
 rw [dec_3] at hf
 have m1 := vb.mx
 have m2 := o4.mx
 refine Z4 (Z4 (Z2 (Z0 (Z3 rfl) rfl (Z0 (RV.len rfl rfl) rfl (Z0 (RV.gtr rfl rfl) rfl (Z7 (.bool (decide (0 < b.length))) (congrArg Value.bool (decide_eq_decide.2 (by omega))) (Z6 (Z1 ?_))))))))
 by_cases h1 : 0 < b.length
 ·replace hf := if_t hf h1
  refine Z13 rfl (decide_eq_true h1) (CW.goto (QW.then_g ?_))
  exact QW.jump (k := k) (by omega) ⟨b, A, c, F, B, ob4, c4, r4, b5, cs5, b2, It.zero, hf, (fun e => absurd e (by decide)), vb, hF, o4, h5, rfl, rfl⟩ ⟨rfl, rfl, rfl, rfl, trivial⟩ (fun w m => m)
 ·replace hf := if_f hf h1
  refine Z14 rfl (decide_eq_false h1) (CW.skip (Z1 ?_))
  rcases F with _ | ⟨f, F⟩
  ·cases hf
  replace hf : dec k 2 f.behind (It.mk true [] f.items) (F.map Frm.pure) = some (res0, res1) := hf
  have o4' : OwnS ob4 (F.length + 1) c4 2 (stC (f :: F)) r4 := o4
  have h0 : ob4.isSome = true := o4'.isSome (i := F.length) (by decide) (by omega)
  have hf0 := hF f (List.mem_cons_self ..)
  refine Z4 (Z2 (Z0 (Z3 rfl) rfl (Z0 (Z3 rfl) rfl (Z0 (RV.len rfl rfl) rfl (Z0 (RV.sub rfl rfl (by simp only [List.length_cons] at *; omega)) rfl (Z0 (Z139 (F.length) rfl rfl (by simp) rfl rfl h0 (by simp only [List.length_cons]; omega)) rfl (Z0 (Z30 rfl rfl rfl rfl) rfl (Z0 (Z29 rfl Zh h0 rfl rfl (stC_at0 F f r4)) rfl ?_))))))))
  refine Z0 (Z109 (l := Zc) (cs := [.bool true, .slice none 0 0, sl f.ob 0 f.items.length f.c]) [(0, [.bool true]), (2, [sl f.ob 0 f.items.length f.c])] rfl rfl rfl rfl rfl rfl rfl) rfl (OW.rot1 ?_)
  refine Z28 (Z105 rfl rfl rfl (by intro u hu; simp at hu; rcases hu with rfl | rfl | rfl <;> rfl) rfl h5 rfl) ?_
  refine Z6 (Z1 (Z4 (Z2 (Z0 (Z3 rfl) rfl (Z0 (Z3 rfl) rfl (Z0 (RV.len rfl rfl) rfl (Z0 (RV.sub rfl rfl (by simp only [List.length_cons] at *; omega)) rfl (Z0 (Z139 (F.length) rfl rfl (by simp) rfl rfl h0 (by simp only [List.length_cons]; omega)) rfl (Z0 (Z30 rfl rfl rfl rfl) rfl (Z0 (Z29 rfl (List.Mem.tail _ Zh) h0 rfl rfl (stC_at1 F f r4)) rfl ?_))))))))))
  refine Z0 (Z5 rfl) rfl (Z6 (Z1 (Z4 (Z2 (Z0 (Z3 rfl) rfl (Z0 (Z3 rfl) rfl (Z0 (RV.len rfl rfl) rfl (Z0 (RV.sub rfl rfl (by simp only [List.length_cons] at *; omega)) rfl ?_))))))))
  refine Z0 (RV.cut_o (F.length) rfl rfl (by simp) rfl rfl (by have := o4'.le (by decide); simp only [List.length_cons]; omega)) rfl ?_
  refine Z0 (Z5 rfl) rfl (Z6 (Z1 (Z4 (CW.goto (QW.then_g ?_)))))
  have hm : ∀ w, More w0 Φ (f.ent 25 :: B) w → More w0 Φ B w := fun w q => More.mono (fun w m => m.tail) q
  have v1 : View (More w0 Φ (f.ent 25 :: B)) ((f.ob).map fun k => ⟨k, 0, none⟩) f.items.length f.c 3 f.cells := hf0.o.view (by decide) (fun w q => q.2.sublist (List.singleton_sublist.2 (List.mem_cons_self ..)))
  have hit : ItRd (More w0 Φ (f.ent 25 :: B)) [.bool true, .slice none 0 0, sl f.ob 0 f.items.length f.c] (It.mk true [] f.items) := by
   have v0 : View (More w0 Φ (f.ent 25 :: B)) none ([] : List (BitVec 8)).length 0 1 (u8s []) := View.nil
   exact ItRd.mk v0 v1 (hf0.h.mono (ItRd.mono hm))
  refine QW.jump (k := k) (by omega) (l := 2) ⟨f.behind, f.A, f.cb, F, f.ent 25 :: B, ob4, c4, f.cs ++ r4, b5, _, b2, It.mk true [] f.items, hf, (fun _ => hit), hf0.v.mono hm, (fun g hg => (hF g (List.mem_cons_of_mem _ hg)).mono hm), o4'.pop rfl, rfl, rfl, rfl⟩ ⟨rfl, rfl, rfl, rfl, trivial⟩ (fun w m => ?_)
  have m := m.pick [1, 0] 2 rfl rfl
  rw [stC_pop] at m
  exact m.underB [_, _, _] _
theorem dec_w2 (w0 : World) (Φ : Ctx) (N : List Ent) (hΦ : ∀ w, Mem w0 w N → Φ w) (res0 : It) (res1 : Nat) (k m : Nat) (hkm : k ≤ m) (L : Z118) (M : List Ent) (h : JD w0 Φ N res0 res1 2 k L M) :
  CW Tryd.prog 105 (JumpJ 105 w0 (JD w0 Φ N res0 res1) m (DecQ w0 Φ N res0 res1)) w0 (afterL (scopeOf Tryd.f39.body) 2) L M := by
 obtain ⟨b, A, c, F, B, ob4, c4, r4, b5, cs5, b2, it, hf, hit, vb, hF, o4, h5, rfl, rfl⟩ := h
 replace hit := hit rfl
 rcases k with _ | k
 ·rw [dec] at hf; cases hf
 replace hf : dec (k + 1) 2 b it _ = _ := hf
 have m1 := vb.mx
 have m2 := o4.mx
 obtain ⟨Ai, ci, Bi, ei, cells, hcs, vi, wi, ri⟩ := ItRd.opn hit
 subst hcs
 refine Z4 (Z4 (Z2 (Z0 (Z3 rfl) rfl (Z0 (RV.len rfl rfl) rfl (Z0 (RV.eql rfl rfl) rfl (Z7 (.bool (decide (F.length = 0))) (congrArg Value.bool (decide_eq_decide.2 (by omega))) (Z6 (Z1 ?_))))))))
 rcases F with _ | ⟨f, F⟩
 ·rw [List.map_nil, dec_2n] at hf
  refine Z13 rfl rfl (Z4 (Z4 (Z2 (Z0 (Z3 rfl) rfl (Z0 (RV.len rfl rfl) rfl (Z0 (RV.gtr rfl rfl) rfl (Z7 (.bool (decide (0 < b.length))) (congrArg Value.bool (decide_eq_decide.2 (by omega))) (Z6 (Z1 ?_)))))))))
  by_cases h1 : 0 < b.length
  ·replace hf := if_t hf h1
   refine Z13 rfl (decide_eq_true h1) (Z4 (Z2 (Z0 (Z5 rfl) rfl (Z6 (Z1 (CW.goto (QW.then_g (QW.then_g ?_))))))))
   obtain ⟨e0, e1⟩ := Prod.mk.inj (Zi hf)
   subst e1
   exact QW.jump (k := 0) (l := 0) (by omega) ⟨b2, e0.symm, (by omega), rfl, rfl⟩ ⟨rfl, rfl, trivial⟩ (fun w m => toBroken m)
  ·replace hf := if_f hf h1
   refine Z14 rfl (decide_eq_false h1) (CW.skip (Z1 (Z4 (Z2 (Z0 (Z22 rfl (List.Mem.tail _ Zh) rfl rfl rfl rfl rfl) rfl (OW.rot2 ?_))))))
   refine Z28 (Z105 rfl rfl rfl (by intro u hu; simp at hu; rcases hu with rfl | rfl | rfl <;> rfl) rfl rfl rfl) ?_
   refine Z0 (Z5 rfl) rfl (Z6 (Z1 (CW.ret (Z8 ?_))))
   obtain ⟨e0, e1⟩ := Prod.mk.inj (Zi hf)
   subst e0
   subst e1
   refine QW.jump_r ?_
   refine Z106 (rs := [.cell 2 25, .tmp 3]) ([.agg [.bool it.list, .slice Ai it.data.length ci, .slice Bi it.items.length ei].toArray, .int .i64 (0 : Int)]) B rfl ?_ rfl ?_ ?_ _ (.inl rfl)
   ·exact ⟨⟨_, _, _, _, rfl, Zh, rfl, rfl, rfl, rfl⟩, rfl, trivial⟩
   ·exact ⟨B, _, hit, (by omega), rfl, rfl⟩
   ·exact (fun w m => m.drop 3)
 ·replace hf : dec (k + 1) 2 b it ((f.items, f.behind) :: F.map Frm.pure) = some (res0, res1) := hf
  rw [dec_2c] at hf
  obtain ⟨hg, hf⟩ := Z128 hf
  refine Z14 rfl rfl (CW.skip (Z1 ?_))
  have o4' : OwnS ob4 (F.length + 1) c4 2 (stC (f :: F)) r4 := o4
  have h0 : ob4.isSome = true := o4'.isSome (i := F.length) (by decide) (by omega)
  have hf0 := hF f (List.mem_cons_self ..)
  have hl4 : 0 + F.length * 2 + 0 < (stC (f :: F) ++ r4).length := by rw [List.length_append, stC_len, List.length_cons]; omega
  have m3 : F.length + 1 ≤ 140737488355328 := m2
  refine Z4 ?_
  refine Z120 (fun L' M' => ∃ g : Frm, g.items = f.items ++ [it] ∧ g.behind = f.behind ∧ g.Ok (More w0 Φ B) ∧ L' = [(0, .slice A b.length c), (2, ptr (some b2) 0), (4, sl ob4 0 (F.length + 1) c4), (5, ptr (some b5) 0)] ∧
   M' = (ob4, blk (stC (g :: F) ++ r4) 136) :: (some b5, blk [.bool it.list, .slice Ai it.data.length ci, .slice Bi it.items.length ei] 25) :: (some b2, blk Zc 25) :: ((g :: F).map (Frm.ent 25) ++ (B ++ N))) ?_ ?_
  ·rintro L' M' ⟨g, gi, gb, gok, e1, e2⟩
   refine Z1 (Z4 (CW.label (Z1 ?_)))
   refine dec_w3 w0 Φ N hΦ res0 res1 k m (by omega) L' M' ⟨b, A, c, g :: F, B, ob4, c4, r4, b5, _, b2, It.zero, ?_, (fun e => absurd e (by decide)), vb, ?_, o4.swap, rfl, e1, e2⟩
   ·show dec k 3 b It.zero ((g.items, g.behind) :: F.map Frm.pure) = some (res0, res1)
    rw [gi, gb]; exact hf
   ·intro x hx
    rcases List.mem_cons.1 hx with rfl | hx
    ·exact gok
    ·exact hF x (List.mem_cons_of_mem _ hx)
  ·refine CW.seqJ (fun L' M' => ∃ v : Bool, L' = [(45, .bool v), (0, .slice A b.length c), (2, ptr (some b2) 0), (4, sl ob4 0 (F.length + 1) c4), (5, ptr (some b5) 0)] ∧ M' = (ob4, blk (stC (f :: F) ++ r4) 136) :: (some b5, blk [.bool it.list, .slice Ai it.data.length ci, .slice Bi it.items.length ei] 25) :: (some b2, blk Zc 25) :: (f.ent 25 :: (F.map (Frm.ent 25) ++ (B ++ N)))) ?_ ?_
   ·rintro L' M' ⟨v, rfl, rfl⟩
    cases v
    ·refine Z14 rfl rfl (Z132 ((some b5, blk [.bool it.list, .slice Ai it.data.length ci, .slice Bi it.items.length ei] 25) :: (some b2, blk Zc 25) :: (F.map (Frm.ent 25) ++ (B ++ N))) [13, 16] (fun w m => m.pick [1, 2] 4 rfl rfl) mixed (by kernel_rfl) (Z10 0 rfl (by kernel_rfl) rfl (Z3 rfl) rfl (Z10 1 rfl (by kernel_rfl) rfl (Z3 rfl) rfl (Z10 2 rfl (by kernel_rfl) rfl (RV.len rfl rfl) rfl (Z10 3 rfl (by kernel_rfl) rfl (RV.sub rfl rfl (by omega)) rfl (Z10 4 rfl (by kernel_rfl) rfl (Z3 rfl) rfl (Z10 5 rfl (by kernel_rfl) rfl (Z3 rfl) rfl ?_)))))))
     refine Z10 6 rfl (by kernel_rfl) rfl (RV.len rfl rfl) rfl (Z10 7 rfl (by kernel_rfl) rfl (RV.sub rfl rfl (by omega)) rfl (Z10 8 rfl (by kernel_rfl) rfl (Z139 (F.length) rfl rfl (by omega) rfl rfl h0 (by omega)) rfl (Z10 9 rfl (by kernel_rfl) rfl (Z30 rfl rfl rfl rfl) rfl (XW.rv 10 rfl (by kernel_rfl) rfl (by kernel_rfl) (Z29 rfl Zh h0 rfl rfl (stC_at0 F f r4)) rfl (Z10 11 rfl (by kernel_rfl) rfl (Z22 rfl Zh rfl rfl rfl rfl rfl) rfl ?_)))))
     refine XW.new 12 rfl (by kernel_rfl) rfl (NV.bsA rfl rfl (by intro x hx; simp at hx; subst hx; rfl) rfl rfl rfl (by decide) (by decide) rfl) rfl (fun b76 => ?_)
     refine Z19 (M' := ((f.ob, blk (f.cells ++ f.r) 25) :: (some b76, blk ([.bool it.list, .slice Ai it.data.length ci, .slice Bi it.items.length ei] ++ []) 25) :: (ob4, blk (stC (f :: F) ++ r4) 136) :: (some b5, blk [.bool it.list, .slice Ai it.data.length ci, .slice Bi it.items.length ei] 25) :: (some b2, blk Zc 25) :: (F.map (Frm.ent 25) ++ (B ++ N)))) (fun w m => m.pick [4, 0, 1, 2, 3] 5 rfl rfl) (fun w m => m.pick [3, 4] 5 rfl rfl) ?_
     refine XW.appendOwn 13 (s := 3) rfl (by kernel_rfl) rfl rfl rfl rfl rfl rfl hf0.o (fun w m => m.rd0 (List.Mem.tail _ Zh) (fun e => nomatch e)) rfl (by intro u hu; simp at hu; rcases hu with rfl | rfl | rfl <;> rfl) (fun e => nomatch e) (by decide) (by decide) hg rfl ((f.items ++ [it]).length) (f.cells ++ [.bool it.list, .slice Ai it.data.length ci, .slice Bi it.items.length ei]) (by simp) rfl (fun w m => m.pick [2, 3] 4 rfl rfl) rfl (fun ob77 r77 c77 o77 => ?_)
     refine Z10 14 rfl (by kernel_rfl) rfl (Z139 (F.length) rfl rfl (by omega) rfl rfl h0 (by omega)) rfl (Z10 15 rfl (by kernel_rfl) rfl (Z30 rfl rfl rfl rfl) rfl (Z19 (M' := ((ob4, blk (stC (f :: F) ++ r4) 136) :: (ob77, blk ((f.cells ++ [.bool it.list, .slice Ai it.data.length ci, .slice Bi it.items.length ei]) ++ r77) 25) :: (some b5, blk [.bool it.list, .slice Ai it.data.length ci, .slice Bi it.items.length ei] 25) :: (some b2, blk Zc 25) :: (F.map (Frm.ent 25) ++ (B ++ N)))) (fun w m => m.pick [2, 0, 3, 4] 5 rfl rfl) (fun w m => m.pick [2, 3] 4 rfl rfl) (XW.sv 16 rfl (by kernel_rfl) (SV.store rfl h0 rfl rfl rfl hl4) (fun w m => m.pick [2, 3] 4 rfl rfl) (XW.cells (stC ((⟨ob77, c77, f.cells ++ [.bool it.list, .slice Ai it.data.length ci, .slice Bi it.items.length ei], r77, f.A, f.cb, f.items ++ [it], f.behind⟩ : Frm) :: F) ++ r4) (show (stC (f :: F) ++ r4).set (0 + F.length * 2 + 0) (sl ob77 0 (f.items ++ [it]).length c77) = stC ((⟨ob77, c77, f.cells ++ [.bool it.list, .slice Ai it.data.length ci, .slice Bi it.items.length ei], r77, f.A, f.cb, f.items ++ [it], f.behind⟩ : Frm) :: F) ++ r4 from stC_set0 F f ⟨ob77, c77, f.cells ++ [.bool it.list, .slice Ai it.data.length ci, .slice Bi it.items.length ei], r77, f.A, f.cb, f.items ++ [it], f.behind⟩ r4 rfl rfl rfl) (XW.nil (by kernel_rfl) (QW.join ⟨⟨ob77, c77, f.cells ++ [.bool it.list, .slice Ai it.data.length ci, .slice Bi it.items.length ei], r77, f.A, f.cb, f.items ++ [it], f.behind⟩, rfl, rfl, ⟨o77, hf0.h.app (Reps.one hit), hf0.v⟩, rfl, rfl⟩ ⟨rfl, rfl, rfl, rfl, trivial⟩ (fun w m => ?_)))))))
     exact m.pick [0, 2, 3, 1] 4 rfl rfl
    ·refine Z13 rfl rfl (Z4 (Z124 14 mixed (by kernel_rfl) rfl (Z18 0 rfl (by kernel_rfl) rfl (Z3 rfl) rfl (Z18 1 rfl (by kernel_rfl) rfl (Z3 rfl) rfl (Z18 2 rfl (by kernel_rfl) rfl (RV.len rfl rfl) rfl (Z18 3 rfl (by kernel_rfl) rfl (RV.sub rfl rfl (by omega)) rfl (Z18 4 rfl (by kernel_rfl) rfl (Z3 rfl) rfl ?_)))))))
     refine Z18 5 rfl (by kernel_rfl) rfl (Z3 rfl) rfl (Z18 6 rfl (by kernel_rfl) rfl (RV.len rfl rfl) rfl (Z18 7 rfl (by kernel_rfl) rfl (RV.sub rfl rfl (by omega)) rfl (Z18 8 rfl (by kernel_rfl) rfl (Z139 (F.length) rfl rfl (by omega) rfl rfl h0 (by omega)) rfl (Z18 9 rfl (by kernel_rfl) rfl (Z30 rfl rfl rfl rfl) rfl (Z18 10 rfl (by kernel_rfl) rfl (Z29 rfl Zh h0 rfl rfl (stC_at0 F f r4)) rfl (Z18 11 rfl (by kernel_rfl) rfl (Z22 rfl (List.Mem.tail _ Zh) rfl rfl rfl rfl rfl) rfl (Z18 12 rfl (by kernel_rfl) rfl (RV.len rfl rfl) rfl ?_)))))))
     refine UW.new 13 rfl (by kernel_rfl) rfl (NV.bsA (cs := Zc) rfl rfl (by intro x hx; simp at hx; subst hx; rfl) rfl rfl rfl (by decide) (by decide) rfl) rfl (fun b59 => ?_)
     refine UW.nil (by kernel_rfl) (Z20 (M' := ((f.ob, blk (f.cells ++ f.r) 25) :: (some b59, blk (Zc ++ []) 25) :: (ob4, blk (stC (f :: F) ++ r4) 136) :: (some b5, blk [.bool it.list, .slice Ai it.data.length ci, .slice Bi it.items.length ei] 25) :: (some b2, blk Zc 25) :: (F.map (Frm.ent 25) ++ (B ++ N)))) (fun w m => m.pick [4, 0, 1, 2, 3] 5 rfl rfl) ?_)
     refine OW.appendOwn (s := 3) rfl rfl rfl rfl rfl rfl hf0.o (fun w m => m.rd0 (List.Mem.tail _ Zh) (fun e => nomatch e)) rfl (by intro u hu; simp at hu; rcases hu with rfl | rfl | rfl <;> rfl) (fun e => nomatch e) (by decide) (by decide) hg rfl rfl ((f.items ++ [it]).length) (f.cells ++ Zc) (by simp) rfl (fun ob60 r60 c60 o60 => ?_)
     refine Z0 (Z139 (F.length) rfl rfl (by omega) rfl rfl h0 (by omega)) rfl (Z0 (Z30 rfl rfl rfl rfl) rfl (OW.rot2 (Z28 (SV.store rfl h0 rfl rfl rfl hl4) (OW.cells (stC ((⟨ob60, c60, f.cells ++ [.bool it.list, .slice Ai it.data.length ci, .slice Bi it.items.length ei], r60, f.A, f.cb, f.items ++ [it], f.behind⟩ : Frm) :: F) ++ r4) (show (stC (f :: F) ++ r4).set (0 + F.length * 2 + 0) (sl ob60 0 (f.items ++ [it]).length c60) = stC ((⟨ob60, c60, f.cells ++ [.bool it.list, .slice Ai it.data.length ci, .slice Bi it.items.length ei], r60, f.A, f.cb, f.items ++ [it], f.behind⟩ : Frm) :: F) ++ r4 from stC_set0 F f ⟨ob60, c60, f.cells ++ [.bool it.list, .slice Ai it.data.length ci, .slice Bi it.items.length ei], r60, f.A, f.cb, f.items ++ [it], f.behind⟩ r4 rfl rfl rfl) (Z6 (Z1 (Z2 ?_)))))))
     have hlen : (f.items ++ [it]).length = f.items.length + 1 := by simp
     have h60 : ob60.isSome = true := o60.isSome (i := f.items.length) (by decide) (by omega)
     refine Z0 (Z139 (f.items.length) rfl rfl rfl rfl rfl h60 (by omega)) rfl (OW.rot1 ?_)
     have hc3 := hf0.o.n
     refine Z28 (Z133 rfl h60 rfl (by intro u hu; simp at hu; rcases hu with rfl | rfl | rfl <;> rfl) rfl rfl (show 0 + f.items.length * 3 + 3 ≤ _ by simp only [List.length_append, List.length_cons, List.length_nil]; omega)) ?_
     have esp : spl ((f.cells ++ Zc) ++ r60) (0 + f.items.length * 3) [.bool it.list, .slice Ai it.data.length ci, .slice Bi it.items.length ei] = (f.cells ++ [.bool it.list, .slice Ai it.data.length ci, .slice Bi it.items.length ei]) ++ r60 := spl_last f.cells Zc [.bool it.list, .slice Ai it.data.length ci, .slice Bi it.items.length ei] r60 (f.items.length * 3) (by omega) rfl
     refine OW.cells _ esp (Z6 (QW.join ⟨⟨ob60, c60, f.cells ++ [.bool it.list, .slice Ai it.data.length ci, .slice Bi it.items.length ei], r60, f.A, f.cb, f.items ++ [it], f.behind⟩, rfl, rfl, ⟨o60.same (by simp) rfl, hf0.h.app (Reps.one hit), hf0.v⟩, rfl, rfl⟩ ⟨rfl, rfl, rfl, rfl, trivial⟩ (fun w m => ?_)))
     exact m.pick [1, 3, 4, 0] 5 rfl rfl
   ·refine CW.drawsA mixed (AW.one 0 (by kernel_rfl) (AO.alloc (l := [.bool false]) rfl rfl rfl rfl (fun b44 => ?_)))
    refine AW.two 1 2 (by kernel_rfl) ?_ ?_
    ·refine AO.sv rfl (SV.store rfl rfl rfl rfl rfl (by simp)) (AW.one 2 (by kernel_rfl) (AO.sv rfl (SV.store rfl rfl rfl rfl rfl (by simp)) (AW.one 3 (by kernel_rfl) (AO.rv rfl (Z29 (v := .bool false) rfl Zh rfl rfl rfl rfl) rfl (AW.nil (by kernel_rfl) ?_)))))
     exact QW.join ⟨false, rfl, rfl⟩ ⟨rfl, rfl, rfl, rfl, rfl, trivial⟩ (fun w m => m.tail)
    ·refine AO.sv rfl (SV.store rfl rfl rfl rfl rfl (by simp)) (AW.one 1 (by kernel_rfl) (AO.sv rfl (SV.store rfl rfl rfl rfl rfl (by simp)) (AW.one 3 (by kernel_rfl) (AO.rv rfl (Z29 (v := .bool true) rfl Zh rfl rfl rfl rfl) rfl (AW.nil (by kernel_rfl) ?_)))))
     exact QW.join ⟨true, rfl, rfl⟩ ⟨rfl, rfl, rfl, rfl, rfl, trivial⟩ (fun w m => m.tail)
theorem dec_w1 (w0 : World) (Φ : Ctx) (N : List Ent) (hΦ : ∀ w, Mem w0 w N → Φ w) (res0 : It) (res1 : Nat) (k m : Nat) (hkm : k ≤ m) (L : Z118) (M : List Ent) (h : JD w0 Φ N res0 res1 1 k L M) :
  CW Tryd.prog 105 (JumpJ 105 w0 (JD w0 Φ N res0 res1) m (DecQ w0 Φ N res0 res1)) w0 (afterL (scopeOf Tryd.f39.body) 1) L M := by
 obtain ⟨b, A, c, F, B, ob4, c4, r4, b5, cs5, b2, it, hf, -, vb, hF, o4, h5, rfl, rfl⟩ := h
 rcases k with _ | k
 ·rw [dec] at hf; cases hf
 replace hf : dec (k + 1) 1 b it _ = _ := hf
 rw [dec_1] at hf
 have m1 := vb.mx
 have m2 := o4.mx
 obtain ⟨⟨x1, x2, x3, x4⟩, hx, hf⟩ := Z103 hf
 dsimp only at hf
 refine Z4 (Z4 (Z2 (Z0 (Z3 rfl) rfl (Z12 Tryd.call79 rfl (rlp_cut_does w0 (More w0 Φ B) _ (fun w m => More.low hΦ [_, _, _] _ m) A c b x1 x2 x3 x4 vb hx) rfl rfl ?_))))
 rintro L3 M3 ⟨B3, Ar1, kr1, Ar2, kr2, v1, v2, bx, e1, e2⟩
 rw [e1, e2]
 clear e1 e2 L3 M3
 refine Z20 (M' := ((ob4, blk (stC F ++ r4) 136) :: (some b5, blk cs5 25) :: (some b2, blk Zc 25) :: (F.map (Frm.ent 25) ++ ((B3 ++ B) ++ N)))) (fun w m => Mem.deep [_, _, _] _ m) ?_
 replace v1 := v1.mono (Ψ := More w0 Φ (B3 ++ B)) (fun w q => More.flat q)
 replace v2 := v2.mono (Ψ := More w0 Φ (B3 ++ B)) (fun w q => More.flat q)
 replace hF : ∀ f ∈ F, f.Ok (More w0 Φ (B3 ++ B)) := fun f hf => (hF f hf).mono (fun w q => More.mono (fun w m => m.appR) q)
 have m3 := v1.mx
 have m4 := v2.mx
 refine Z0 (Z3 rfl) rfl (Z0 (Z17 rfl rfl) rfl (Z0 (Z17 rfl rfl) rfl (Z0 (Z17 rfl rfl) rfl (Z0 (Z17 rfl rfl) rfl (Z0 (Z5 rfl) rfl (Z0 (Z5 rfl) rfl (Z0 (Z5 rfl) rfl ?_)))))))
 refine Z0 (Z5 rfl) rfl (Z6 (Z1 (Z4 (Z2 (Z0 (Z3 rfl) rfl (Z0 (RV.neq rfl rfl) rfl (Z7 (.bool (!decide (x4 = 0))) (congrArg (fun b => Value.bool (!b)) (decide_eq_decide.2 (by omega))) (Z6 (Z1 ?_)))))))))
 by_cases h4 : x4 = 0
 ·replace hf := if_t hf h4
  refine Z14 rfl (congrArg (fun b => !b) (decide_eq_true h4)) (CW.skip (Z1 (Z4 (Z4 (Z2 (Z0 (Z3 rfl) rfl (Z0 (RV.not rfl) rfl (Z6 (Z1 ?_)))))))))
  by_cases h1 : x1 = true
  ·replace hf := if_t hf h1
   refine Z14 rfl (congrArg (fun b => !b) h1) (CW.skip (Z1 (Z4 (Z4 (Z2 (Z0 (Z3 rfl) rfl (Z0 (RV.len rfl rfl) rfl (Z0 (RV.eql rfl rfl) rfl (Z7 (.bool (decide ((F.map Frm.pure).length = 1024))) (congrArg Value.bool (decide_eq_decide.2 (by rw [List.length_map]; omega))) (Z6 (Z1 ?_)))))))))))
   by_cases h2 : (F.map Frm.pure).length = 1024
   ·replace hf := if_t hf h2
    refine Z13 rfl (decide_eq_true h2) (Z4 (Z2 (Z0 (Z5 rfl) rfl (Z6 (Z1 (CW.goto (QW.then_g ?_)))))))
    obtain ⟨e0, e1⟩ := Prod.mk.inj (Zi hf)
    subst e1
    exact QW.jump (k := 0) (l := 0) (by omega) ⟨b2, e0.symm, (by omega), rfl, rfl⟩ ⟨rfl, rfl, trivial⟩ (fun w m => toBroken m)
   ·replace hf := if_f hf h2
    refine Z14 rfl (decide_eq_false h2) (CW.skip (Z1 ?_))
    obtain ⟨hg, hf⟩ := Z128 hf
    rw [List.length_map] at hg
    refine Z4 (Z2 (Z0 (Z3 rfl) rfl (Z0 (Z3 rfl) rfl (Z0 (Z109 (l := [.slice none 0 0, .slice none 0 0]) (cs := [.slice none 0 0, .slice Ar2 x3.length kr2]) [(1, [.slice Ar2 x3.length kr2])] rfl rfl rfl rfl rfl rfl rfl) rfl ?_))))
    refine OW.ofN (NV.bsA rfl rfl (by intro x hx; simp at hx; subst hx; rfl) rfl rfl rfl (by decide) (by decide) rfl) rfl (fun b33 => ?_)
    refine Z20 (M' := ((ob4, blk (stC F ++ r4) 136) :: (some b33, blk ([.slice none 0 0, .slice Ar2 x3.length kr2] ++ []) 136) :: (some b5, blk cs5 25) :: (some b2, blk Zc 25) :: (F.map (Frm.ent 25) ++ ((B3 ++ B) ++ N)))) (fun w m => m.pick [1, 0, 2, 3] 4 rfl rfl) ?_
    refine OW.appendOwn (s := 2) rfl rfl rfl rfl rfl rfl o4 (fun w m => m.rd0 (List.Mem.tail _ Zh) (fun e => nomatch e)) rfl (by intro u hu; simp at hu; rcases hu with rfl | rfl <;> rfl) (fun e => nomatch e) (by decide) (by decide) hg rfl rfl (((⟨none, 0, [], [], Ar2, kr2, [], x3⟩ : Frm) :: F).length) (stC ((⟨none, 0, [], [], Ar2, kr2, [], x3⟩ : Frm) :: F)) (by simp) rfl (fun ob34 r34 c34 o34 => ?_)
    refine Z0 (Z5 rfl) rfl (Z6 (Z1 (Z4 (Z2 (Z0 (Z3 rfl) rfl (Z0 (Z5 rfl) rfl (Z6 (Z1 (Z4 (Z2 (Z0 (Z109 (l := Zc) (cs := [.bool true, .slice none 0 0, .slice none 0 0]) [(0, [.bool true])] rfl rfl rfl rfl rfl rfl rfl) rfl (OW.rot2 ?_))))))))))))
    refine Z28 (Z105 rfl rfl rfl (by intro u hu; simp at hu; rcases hu with rfl | rfl | rfl <;> rfl) rfl h5 rfl) ?_
    refine Z6 (Z1 (Z4 (CW.goto (QW.then_g ?_))))
    refine QW.jump (k := k) (l := 3) (by omega) ⟨x2, Ar1, kr1, ⟨none, 0, [], [], Ar2, kr2, [], x3⟩ :: F, B3 ++ B, ob34, c34, r34, b5, [.bool true, .slice none 0 0, .slice none 0 0], b2, It.zero, hf, (fun e => absurd e (by decide)), v1, ?_, o34, rfl, rfl, rfl⟩ ⟨rfl, rfl, rfl, rfl, trivial⟩ (fun w m => ?_)
    ·intro x hx
     rcases List.mem_cons.1 hx with rfl | hx
     ·exact ⟨OwnS.nil, Reps.nil, v2⟩
     ·exact hF x hx
    ·have m := m.nil_ent (blk ([] ++ []) 25)
     exact m.pick [2, 1, 4, 0] 5 rfl rfl
  ·replace hf := if_f hf h1
   refine Z13 rfl (congrArg (fun b => !b) (Bool.eq_false_iff.2 h1)) ?_
   obtain ⟨x, hx5, hf⟩ := Z103 hf
   refine Z4 (Z2 (Z0 (Z3 rfl) rfl (Z12 Tryd.call80 rfl (rlp_Text_does w0 (More w0 Φ (B3 ++ B)) _ (fun w m => More.low hΦ [_, _, _] _ m) Ar1 kr1 x2 x v1 hx5) rfl rfl ?_)))
   rintro L3 M3 ⟨B4, cr, hr, e1, e2⟩
   rw [e1, e2]
   clear e1 e2 L3 M3
   refine Z20 (M' := ((ob4, blk (stC F ++ r4) 136) :: (some b5, blk cs5 25) :: (some b2, blk Zc 25) :: (F.map (Frm.ent 25) ++ ((B4 ++ (B3 ++ B)) ++ N)))) (fun w m => Mem.deep [_, _, _] _ m) ?_
   replace hr := ItRd.mono (Ψ := More w0 Φ (B4 ++ (B3 ++ B))) (fun w q => More.flat q) _ _ hr
   replace v2 := v2.mono (Ψ := More w0 Φ (B4 ++ (B3 ++ B))) (fun w q => More.mono (fun w m => m.appR) q)
   replace hF : ∀ f ∈ F, f.Ok (More w0 Φ (B4 ++ (B3 ++ B))) := fun f hf => (hF f hf).mono (fun w q => More.mono (fun w m => m.appR) q)
   have hl := ItRd.len _ _ hr
   have h1c := ItRd.one _ _ hr
   refine OW.rot1 (Z28 (Z105 rfl rfl rfl h1c rfl h5 hl) (Z6 (Z1 (Z4 (Z2 (Z0 (Z3 rfl) rfl (Z0 (Z5 rfl) rfl (Z6 (Z1 (CW.goto (QW.then_g ?_)))))))))))
   exact QW.jump (k := k) (l := 2) (by omega) ⟨x3, Ar2, kr2, F, B4 ++ (B3 ++ B), ob4, c4, r4, b5, cr, b2, x, hf, (fun _ => hr), v2, hF, o4, hl, rfl, rfl⟩ ⟨rfl, rfl, rfl, rfl, trivial⟩ (fun w m => m.pick [1, 0] 2 rfl rfl)
 ·replace hf := if_f hf h4
  refine Z13 rfl (congrArg (fun b => !b) (decide_eq_false h4)) (CW.goto (QW.then_g ?_))
  obtain ⟨e0, e1⟩ := Prod.mk.inj (Zi hf)
  subst e1
  exact QW.jump (k := 0) (l := 0) (by omega) ⟨b2, e0.symm, bx, rfl, rfl⟩ ⟨rfl, rfl, trivial⟩ (fun w m => toBroken m)
theorem rlp_Decode_does (w0 : World) (Φ : Ctx) (N : List Ent) (hΦ : ∀ w, Mem w0 w N → Φ w) (A0_ : Option Addr) (c0_ : Nat) (a0 : List (BitVec 8)) (res0 : It) (res1 : Nat) (va0 : View Φ A0_ a0.length c0_ 1 (u8s a0)) (hf : rlp_Decode a0 = some (res0, res1)) : DoesG Tryd.prog 39 [.slice A0_ a0.length c0_] w0 [] N (fun v G => ∃ B : List Ent, ∃ cr0 : List Value, (ItRd (More w0 Φ B) cr0 res0) ∧ (res1 ≤ 9223372036854775807) ∧ v = .tuple #[.agg cr0.toArray, .int .i64 ((res1 : Nat) : Int)] ∧ G = B) := by
 unfold rlp_Decode at hf
 have m1 := va0.mx
 refine DoesG.enter Tryd.func39 rfl Tryd.ntmps39 rfl (M := N) rfl (Z4 (Z2 (OW.alloc (l := Zc) rfl rfl rfl (fun b2 => (Z0 (Z5 rfl) rfl (Z6 (Z1 ?_)))))))
 refine CW.scopeJ (JD w0 Φ N res0 res1) (4 * a0.length + 9) ?_ ?_
 ·refine Z4 (Z2 (Z0 (Z5 rfl) rfl (Z6 (Z1 (Z4 (Z2 (OW.alloc (l := Zc) rfl rfl rfl (fun b5 => (Z6 (Z1 (Z4 (Z2 (Z0 (Z5 rfl) rfl (Z6 (Z1 (Z4 (Z2 (Z0 (Z5 rfl) rfl ?_))))))))))))))))))
  refine Z0 (Z5 rfl) rfl (Z6 (Z1 (Z4 (Z2 (Z0 (Z5 rfl) rfl (Z6 (Z1 (Z4 (Z4 (Z2 (Z0 (Z3 rfl) rfl (Z0 (RV.len rfl rfl) rfl (Z0 (RV.gtr rfl rfl) rfl (Z7 (.bool (decide (16777216 < a0.length))) (congrArg Value.bool (decide_eq_decide.2 (by omega))) ?_))))))))))))))
  refine Z6 (Z1 ?_)
  by_cases h1 : 16777216 < a0.length
  ·replace hf := if_t hf h1
   refine Z13 rfl (decide_eq_true h1) (CW.goto (QW.then_g ?_))
   obtain ⟨e0, e1⟩ := Prod.mk.inj (Zi hf)
   subst e1
   exact QW.jump (k := 0) (l := 0) (by omega) ⟨b2, e0.symm, (by omega), rfl, rfl⟩ ⟨rfl, rfl, trivial⟩ (fun w m => m.tail)
  ·replace hf := if_f hf h1
   refine Z14 rfl (decide_eq_false h1) (CW.skip (Z1 (Z4 (CW.label (Z1 (CW.mem (M' := ((none, blk ([] ++ []) 136) :: (some b5, blk Zc 25) :: (some b2, blk Zc 25) :: N)) (fun w m => m.nil_ent _) (CW.sub (L' := [(0, .slice A0_ a0.length c0_), (2, ptr (some b2) 0), (4, sl none 0 0 0), (5, ptr (some b5) 0)]) ⟨rfl, rfl, rfl, rfl, trivial⟩ ?_)))))))
   exact dec_w1 w0 Φ N hΦ res0 res1 (4 * a0.length + 8) _ (by omega) _ _ ⟨a0, A0_, c0_, [], [], none, 0, [], b5, Zc, b2, It.zero, hf, (fun e => absurd e (by decide)), va0.mono (fun w q => q.1), (fun f hf => nomatch hf), OwnS.nil, rfl, rfl, rfl⟩
 ·intro l k L M h
  match l, h with
  | 0, ⟨b2, e0, hb, e1, e2⟩ =>
   subst e0
   subst e1
   subst e2
   refine ⟨_, rfl, ?_⟩
   refine Z4 (CW.skip (Z1 (Z4 (Z2 (Z0 (Z109 (l := Zc) (cs := Zc) [] rfl rfl rfl rfl rfl rfl rfl) rfl (Z0 (Z3 rfl) rfl ?_))))))
   refine Z28 (Z105 rfl rfl rfl (by intro u hu; simp at hu; rcases hu with rfl | rfl | rfl <;> rfl) rfl rfl rfl) ?_
   refine Z0 (Z5 rfl) rfl (Z6 (Z1 (CW.ret (QW.jump_r ?_))))
   have v0 : View (More w0 Φ []) none ([] : List (BitVec 8)).length 0 1 (u8s []) := View.nil
   have v1 : View (More w0 Φ []) none ([] : List (It)).length 0 3 [] := View.nil
   refine Z106 (rs := [.cell 2 25, .tmp 3]) ([.agg Zc.toArray, .int .i64 ((res1 : Nat) : Int)]) [] rfl ?_ rfl ?_ ?_ _ (.inl rfl)
   ·exact ⟨⟨_, _, _, _, rfl, Zh, rfl, rfl, rfl, rfl⟩, rfl, trivial⟩
   ·exact ⟨[], Zc, (ItRd.mk v0 v1 (Reps.nil)), hb, rfl, rfl⟩
   ·exact (fun w m => m.tail)
  | 1, h =>
   refine ⟨_, rfl, ?_⟩
   refine Z4 (CW.skip (Z1 ?_))
   exact dec_w1 w0 Φ N hΦ res0 res1 k k (Nat.le_refl _) L M h
  | 2, h =>
   refine ⟨_, rfl, ?_⟩
   refine Z4 (CW.skip (Z1 ?_))
   exact dec_w2 w0 Φ N hΦ res0 res1 k k (Nat.le_refl _) L M h
  | 3, h =>
   refine ⟨_, rfl, ?_⟩
   refine Z4 (CW.skip (Z1 ?_))
   exact dec_w3 w0 Φ N hΦ res0 res1 k k (Nat.le_refl _) L M h
  | l + 4, ⟨b, A, c, F, B, ob4, c4, r4, b5, cs5, b2, it, hf, _⟩ =>
   rcases k with _ | k
   ·rw [dec] at hf; cases hf
   ·exact absurd hf (by simp [dec])
theorem zhdr_one {A : Option Addr} {c : Nat} {h : Hdr} : ∀ u ∈ (h.C A c).C, u.oneCell' = true := HdrC.C_one _ rfl
theorem Z111 {A : Option Addr} {c : Nat} {h : Hdr} : (h.C A c).C.length = 588 := HdrC.C_length _
theorem Z121 : i38.z.cells = ((Hdr.zero.C none 0).C).toArray := by kernel_rfl
noncomputable def slOps : List Oper := fnOps Tryd.f44 1
theorem slx0 : (List.range' 0 14).all (fun i => XR slOps.toArray (doneTo i 98).toArray i) = true := by kernel_rfl
theorem slx1 : (List.range' 14 14).all (fun i => XR slOps.toArray (doneTo i 98).toArray i) = true := by kernel_rfl
theorem slx2 : (List.range' 28 14).all (fun i => XR slOps.toArray (doneTo i 98).toArray i) = true := by kernel_rfl
theorem slx3 : (List.range' 42 14).all (fun i => XR slOps.toArray (doneTo i 98).toArray i) = true := by kernel_rfl
theorem slx4 : (List.range' 56 14).all (fun i => XR slOps.toArray (doneTo i 98).toArray i) = true := by kernel_rfl
theorem slx5 : (List.range' 70 14).all (fun i => XR slOps.toArray (doneTo i 98).toArray i) = true := by kernel_rfl
theorem slx6 : (List.range' 84 14).all (fun i => XR slOps.toArray (doneTo i 98).toArray i) = true := by kernel_rfl
theorem slX : ∀ i, i < 98 → XR slOps.toArray (doneTo i 98).toArray i = true := by
 intro i hi
 by_cases h0 : i < 14
 ·exact List.all_eq_true.1 slx0 i (List.mem_range'_1.2 (by omega))
 by_cases h1 : i < 28
 ·exact List.all_eq_true.1 slx1 i (List.mem_range'_1.2 (by omega))
 by_cases h2 : i < 42
 ·exact List.all_eq_true.1 slx2 i (List.mem_range'_1.2 (by omega))
 by_cases h3 : i < 56
 ·exact List.all_eq_true.1 slx3 i (List.mem_range'_1.2 (by omega))
 by_cases h4 : i < 70
 ·exact List.all_eq_true.1 slx4 i (List.mem_range'_1.2 (by omega))
 by_cases h5 : i < 84
 ·exact List.all_eq_true.1 slx5 i (List.mem_range'_1.2 (by omega))
 by_cases h6 : i < 98
 ·exact List.all_eq_true.1 slx6 i (List.mem_range'_1.2 (by omega))
 omega
theorem slB : Region.noSelect slOps.toArray = true := by kernel_rfl
theorem slD : (List.replicate slOps.length false).toArray = (doneTo 0 98).toArray := by kernel_rfl
theorem slE : (Region.ready .any slOps.toArray (doneTo 97 98).toArray == [97] && [97].contains 97) = true := by kernel_rfl
theorem slF : Region.seqB .any slOps.toArray 0 slOps.toArray.size (doneTo 98 98).toArray = true := by kernel_rfl
theorem header_slots_does (w0 : World) (N : List Ent) (b : Nat) : DoesG Tryd.prog 44 [ptr (some b) 0] w0 [] N (fun u G => ∃ B, u = .agg (slotC b).toArray ∧ G = B) := by
 refine DoesG.enter Tryd.func44 rfl Tryd.ntmps44 rfl (M := N) rfl ?_
 (repeat (first | refine Z4 ?_ | refine Z1 ?_ | refine CW.block ?_ | refine CW.ret ?_ | refine CW.skip ?_ | refine CW.exit ?_ | refine Z9 ?_ | refine Z8 ?_ | refine Z27 ?_ | refine Z15 ?_ | refine QW.block_xn rfl ?_ | refine Z16 ?_))
 refine Z2 (OW.alloc rfl rfl rfl (fun b2 => (Z6 ?_)))
 (repeat (first | refine Z4 ?_ | refine Z1 ?_ | refine CW.block ?_ | refine CW.ret ?_ | refine CW.skip ?_ | refine CW.exit ?_ | refine Z9 ?_ | refine Z8 ?_ | refine Z27 ?_ | refine Z15 ?_ | refine QW.block_xn rfl ?_ | refine Z16 ?_))
 refine Z132 (l := slOps) N [97] (fun w m => m.tail) mixed slB ?_
 refine XW.norm (done' := (doneTo 0 98).toArray) (by rw [← List.toArray_replicate]; exact slD) ?_
 refine Z112 0 slX (by decide) rfl rfl (Z3 rfl) rfl (Z112 1 slX (by decide) rfl rfl (RV.nilCheck rfl) rfl (Z112 2 slX (by decide) rfl rfl (Z30 rfl rfl rfl rfl) rfl (XW.slot (ptr (some b) 0) rfl (Z112 3 slX (by decide) rfl rfl (Z126 rfl rfl rfl) rfl (XW.slot (sl (some b) 0 32 32) rfl (Z112 4 slX (by decide) rfl rfl (Z109 (l := [nsl, npt, npt, npt]) (cs := Slk.cells b (.text 0 32)) [(0, [sl (some b) 0 32 32])] rfl rfl rfl rfl rfl rfl rfl) rfl (Z112 5 slX (by decide) rfl rfl (Z3 rfl) rfl ?_)))))))
 refine Z112 6 slX (by decide) rfl rfl (RV.nilCheck rfl) rfl (Z112 7 slX (by decide) rfl rfl (Z30 rfl rfl rfl rfl) rfl (XW.slot (ptr (some b) 32) rfl (Z112 8 slX (by decide) rfl rfl (Z126 rfl rfl rfl) rfl (XW.slot (sl (some b) 32 32 32) rfl (Z112 9 slX (by decide) rfl rfl (Z109 (l := [nsl, npt, npt, npt]) (cs := Slk.cells b (.text 32 32)) [(0, [sl (some b) 32 32 32])] rfl rfl rfl rfl rfl rfl rfl) rfl (Z112 10 slX (by decide) rfl rfl (Z3 rfl) rfl (Z112 11 slX (by decide) rfl rfl (RV.nilCheck rfl) rfl ?_)))))))
 refine Z112 12 slX (by decide) rfl rfl (Z30 rfl rfl rfl rfl) rfl (XW.slot (ptr (some b) 64) rfl (Z112 13 slX (by decide) rfl rfl (Z126 rfl rfl rfl) rfl (XW.slot (sl (some b) 64 20 20) rfl (Z112 14 slX (by decide) rfl rfl (Z109 (l := [nsl, npt, npt, npt]) (cs := Slk.cells b (.text 64 20)) [(0, [sl (some b) 64 20 20])] rfl rfl rfl rfl rfl rfl rfl) rfl (Z112 15 slX (by decide) rfl rfl (Z3 rfl) rfl (Z112 16 slX (by decide) rfl rfl (RV.nilCheck rfl) rfl (Z112 17 slX (by decide) rfl rfl (Z30 rfl rfl rfl rfl) rfl ?_)))))))
 refine XW.slot (ptr (some b) 84) rfl (Z112 18 slX (by decide) rfl rfl (Z126 rfl rfl rfl) rfl (XW.slot (sl (some b) 84 32 32) rfl (Z112 19 slX (by decide) rfl rfl (Z109 (l := [nsl, npt, npt, npt]) (cs := Slk.cells b (.text 84 32)) [(0, [sl (some b) 84 32 32])] rfl rfl rfl rfl rfl rfl rfl) rfl (Z112 20 slX (by decide) rfl rfl (Z3 rfl) rfl (Z112 21 slX (by decide) rfl rfl (RV.nilCheck rfl) rfl (Z112 22 slX (by decide) rfl rfl (Z30 rfl rfl rfl rfl) rfl (XW.slot (ptr (some b) 116) rfl ?_)))))))
 refine Z112 23 slX (by decide) rfl rfl (Z126 rfl rfl rfl) rfl (XW.slot (sl (some b) 116 32 32) rfl (Z112 24 slX (by decide) rfl rfl (Z109 (l := [nsl, npt, npt, npt]) (cs := Slk.cells b (.text 116 32)) [(0, [sl (some b) 116 32 32])] rfl rfl rfl rfl rfl rfl rfl) rfl (Z112 25 slX (by decide) rfl rfl (Z3 rfl) rfl (Z112 26 slX (by decide) rfl rfl (RV.nilCheck rfl) rfl (Z112 27 slX (by decide) rfl rfl (Z30 rfl rfl rfl rfl) rfl (XW.slot (ptr (some b) 148) rfl (Z112 28 slX (by decide) rfl rfl (Z126 rfl rfl rfl) rfl ?_)))))))
 refine XW.slot (sl (some b) 148 32 32) rfl (Z112 29 slX (by decide) rfl rfl (Z109 (l := [nsl, npt, npt, npt]) (cs := Slk.cells b (.text 148 32)) [(0, [sl (some b) 148 32 32])] rfl rfl rfl rfl rfl rfl rfl) rfl (Z112 30 slX (by decide) rfl rfl (Z3 rfl) rfl (Z112 31 slX (by decide) rfl rfl (RV.nilCheck rfl) rfl (Z112 32 slX (by decide) rfl rfl (Z30 rfl rfl rfl rfl) rfl (XW.slot (ptr (some b) 180) rfl (Z112 33 slX (by decide) rfl rfl (Z126 rfl rfl rfl) rfl (XW.slot (sl (some b) 180 256 256) rfl ?_)))))))
 refine Z112 34 slX (by decide) rfl rfl (Z109 (l := [nsl, npt, npt, npt]) (cs := Slk.cells b (.text 180 256)) [(0, [sl (some b) 180 256 256])] rfl rfl rfl rfl rfl rfl rfl) rfl (Z112 35 slX (by decide) rfl rfl (Z3 rfl) rfl (Z112 36 slX (by decide) rfl rfl (RV.nilCheck rfl) rfl (Z112 37 slX (by decide) rfl rfl (Z30 rfl rfl rfl rfl) rfl (XW.slot (ptr (some b) 436) rfl (Z112 38 slX (by decide) rfl rfl (Z109 (l := [nsl, npt, npt, npt]) (cs := Slk.cells b (.big 436)) [(1, [ptr (some b) 436])] rfl rfl rfl rfl rfl rfl rfl) rfl (Z112 39 slX (by decide) rfl rfl (Z3 rfl) rfl (Z112 40 slX (by decide) rfl rfl (RV.nilCheck rfl) rfl ?_)))))))
 refine Z112 41 slX (by decide) rfl rfl (Z30 rfl rfl rfl rfl) rfl (XW.slot (ptr (some b) 440) rfl (Z112 42 slX (by decide) rfl rfl (Z109 (l := [nsl, npt, npt, npt]) (cs := Slk.cells b (.word 440)) [(2, [ptr (some b) 440])] rfl rfl rfl rfl rfl rfl rfl) rfl (Z112 43 slX (by decide) rfl rfl (Z3 rfl) rfl (Z112 44 slX (by decide) rfl rfl (RV.nilCheck rfl) rfl (Z112 45 slX (by decide) rfl rfl (Z30 rfl rfl rfl rfl) rfl (XW.slot (ptr (some b) 441) rfl (Z112 46 slX (by decide) rfl rfl (Z109 (l := [nsl, npt, npt, npt]) (cs := Slk.cells b (.word 441)) [(2, [ptr (some b) 441])] rfl rfl rfl rfl rfl rfl rfl) rfl ?_)))))))
 refine Z112 47 slX (by decide) rfl rfl (Z3 rfl) rfl (Z112 48 slX (by decide) rfl rfl (RV.nilCheck rfl) rfl (Z112 49 slX (by decide) rfl rfl (Z30 rfl rfl rfl rfl) rfl (XW.slot (ptr (some b) 442) rfl (Z112 50 slX (by decide) rfl rfl (Z109 (l := [nsl, npt, npt, npt]) (cs := Slk.cells b (.word 442)) [(2, [ptr (some b) 442])] rfl rfl rfl rfl rfl rfl rfl) rfl (Z112 51 slX (by decide) rfl rfl (Z3 rfl) rfl (Z112 52 slX (by decide) rfl rfl (RV.nilCheck rfl) rfl (Z112 53 slX (by decide) rfl rfl (Z30 rfl rfl rfl rfl) rfl ?_)))))))
 refine XW.slot (ptr (some b) 443) rfl (Z112 54 slX (by decide) rfl rfl (Z109 (l := [nsl, npt, npt, npt]) (cs := Slk.cells b (.word 443)) [(2, [ptr (some b) 443])] rfl rfl rfl rfl rfl rfl rfl) rfl (Z112 55 slX (by decide) rfl rfl (Z3 rfl) rfl (Z112 56 slX (by decide) rfl rfl (RV.nilCheck rfl) rfl (Z112 57 slX (by decide) rfl rfl (Z30 rfl rfl rfl rfl) rfl (XW.slot (ptr (some b) 444) rfl (Z112 58 slX (by decide) rfl rfl (Z109 (l := [nsl, npt, npt, npt]) (cs := Slk.cells b (.ext 444)) [(3, [ptr (some b) 444])] rfl rfl rfl rfl rfl rfl rfl) rfl (Z112 59 slX (by decide) rfl rfl (Z3 rfl) rfl ?_)))))))
 refine Z112 60 slX (by decide) rfl rfl (RV.nilCheck rfl) rfl (Z112 61 slX (by decide) rfl rfl (Z30 rfl rfl rfl rfl) rfl (XW.slot (ptr (some b) 445) rfl (Z112 62 slX (by decide) rfl rfl (Z126 rfl rfl rfl) rfl (XW.slot (sl (some b) 445 32 32) rfl (Z112 63 slX (by decide) rfl rfl (Z109 (l := [nsl, npt, npt, npt]) (cs := Slk.cells b (.text 445 32)) [(0, [sl (some b) 445 32 32])] rfl rfl rfl rfl rfl rfl rfl) rfl (Z112 64 slX (by decide) rfl rfl (Z3 rfl) rfl (Z112 65 slX (by decide) rfl rfl (RV.nilCheck rfl) rfl ?_)))))))
 refine Z112 66 slX (by decide) rfl rfl (Z30 rfl rfl rfl rfl) rfl (XW.slot (ptr (some b) 477) rfl (Z112 67 slX (by decide) rfl rfl (Z126 rfl rfl rfl) rfl (XW.slot (sl (some b) 477 8 8) rfl (Z112 68 slX (by decide) rfl rfl (Z109 (l := [nsl, npt, npt, npt]) (cs := Slk.cells b (.text 477 8)) [(0, [sl (some b) 477 8 8])] rfl rfl rfl rfl rfl rfl rfl) rfl (Z112 69 slX (by decide) rfl rfl (Z3 rfl) rfl (Z112 70 slX (by decide) rfl rfl (RV.nilCheck rfl) rfl (Z112 71 slX (by decide) rfl rfl (Z30 rfl rfl rfl rfl) rfl ?_)))))))
 refine XW.slot (ptr (some b) 486) rfl (Z112 72 slX (by decide) rfl rfl (Z109 (l := [nsl, npt, npt, npt]) (cs := Slk.cells b (.big 486)) [(1, [ptr (some b) 486])] rfl rfl rfl rfl rfl rfl rfl) rfl (Z112 73 slX (by decide) rfl rfl (Z3 rfl) rfl (Z112 74 slX (by decide) rfl rfl (RV.nilCheck rfl) rfl (Z112 75 slX (by decide) rfl rfl (Z30 rfl rfl rfl rfl) rfl (XW.slot (ptr (some b) 490) rfl (Z112 76 slX (by decide) rfl rfl (Z126 rfl rfl rfl) rfl (XW.slot (sl (some b) 490 32 32) rfl ?_)))))))
 refine Z112 77 slX (by decide) rfl rfl (Z109 (l := [nsl, npt, npt, npt]) (cs := Slk.cells b (.text 490 32)) [(0, [sl (some b) 490 32 32])] rfl rfl rfl rfl rfl rfl rfl) rfl (Z112 78 slX (by decide) rfl rfl (Z3 rfl) rfl (Z112 79 slX (by decide) rfl rfl (RV.nilCheck rfl) rfl (Z112 80 slX (by decide) rfl rfl (Z30 rfl rfl rfl rfl) rfl (XW.slot (ptr (some b) 522) rfl (Z112 81 slX (by decide) rfl rfl (Z109 (l := [nsl, npt, npt, npt]) (cs := Slk.cells b (.word 522)) [(2, [ptr (some b) 522])] rfl rfl rfl rfl rfl rfl rfl) rfl (Z112 82 slX (by decide) rfl rfl (Z3 rfl) rfl (Z112 83 slX (by decide) rfl rfl (RV.nilCheck rfl) rfl ?_)))))))
 refine Z112 84 slX (by decide) rfl rfl (Z30 rfl rfl rfl rfl) rfl (XW.slot (ptr (some b) 523) rfl (Z112 85 slX (by decide) rfl rfl (Z109 (l := [nsl, npt, npt, npt]) (cs := Slk.cells b (.word 523)) [(2, [ptr (some b) 523])] rfl rfl rfl rfl rfl rfl rfl) rfl (Z112 86 slX (by decide) rfl rfl (Z3 rfl) rfl (Z112 87 slX (by decide) rfl rfl (RV.nilCheck rfl) rfl (Z112 88 slX (by decide) rfl rfl (Z30 rfl rfl rfl rfl) rfl (XW.slot (ptr (some b) 524) rfl (Z112 89 slX (by decide) rfl rfl (Z126 rfl rfl rfl) rfl ?_)))))))
 refine XW.slot (sl (some b) 524 32 32) rfl (Z112 90 slX (by decide) rfl rfl (Z109 (l := [nsl, npt, npt, npt]) (cs := Slk.cells b (.text 524 32)) [(0, [sl (some b) 524 32 32])] rfl rfl rfl rfl rfl rfl rfl) rfl (Z112 91 slX (by decide) rfl rfl (Z3 rfl) rfl (Z112 92 slX (by decide) rfl rfl (RV.nilCheck rfl) rfl (Z112 93 slX (by decide) rfl rfl (Z30 rfl rfl rfl rfl) rfl (XW.slot (ptr (some b) 556) rfl (Z112 94 slX (by decide) rfl rfl (Z126 rfl rfl rfl) rfl (XW.slot (sl (some b) 556 32 32) rfl ?_)))))))
 refine Z112 95 slX (by decide) rfl rfl (Z109 (l := [nsl, npt, npt, npt]) (cs := Slk.cells b (.text 556 32)) [(0, [sl (some b) 556 32 32])] rfl rfl rfl rfl rfl rfl rfl) rfl ?_
 refine Z112 96 slX (by decide) rfl rfl (RV.buildAs (l := List.flatten (List.replicate 21 [nsl, npt, npt, npt])) (s := 4) (vss := slotL.map (Slk.cells b)) (cs := slotC b) rfl rfl rfl rfl rfl (by intro x hx; obtain ⟨s, _, rfl⟩ := List.mem_map.1 hx; exact Slk.cells_length b s) slotC_hl (slotC_def b)) rfl ?_
 refine XW.sv 97 rfl slE (Z105 rfl rfl rfl (slotC_one b) rfl rfl rfl) (fun w m => m.tail) (XW.norm (done' := (doneTo 98 98).toArray) (doneTo_next (by decide)) (XW.nil slF (Z1 (CW.ret ?_))))
 refine Z106 (rs := [.cell 2 97]) [.agg (slotC b).toArray] ((some b2, blk (slotC b) 97) :: []) rfl ⟨⟨_, _, _, _, rfl, Zh, rfl, rfl, rfl, rfl⟩, trivial⟩ rfl ⟨_, rfl, rfl⟩ (fun w m => m) _ (.inl rfl)
theorem hslot_read_does (w0 : World) (Φ : Ctx) (N : List Ent) (hΦ : ∀ w, Mem w0 w N → Φ w) (b : Nat) (s : Slk) (l : List Value) (te : TypeId) (cs : List Value) (it : It) (fd : Fd) (e : Nat) (hw : s.width ≤ 1000) (hsz : s.off + s.sz ≤ l.length) (hit : ItRd Φ cs it) (hf : readS s it = some (fd, e)) : DoesG Tryd.prog 45 [.agg (s.cells b).toArray, .agg cs.toArray, .int .i64 s.width] w0 [(some b, blk l te)] N (fun v G => ∃ B l', e ≤ 9223372036854775807 ∧ v = .int .i64 (e : Int) ∧ G = (some b, blk l' te) :: B ∧ Wrote (More w0 Φ B) l l' s fd) := by
 have hcl : cs.length = 3 := ItRd.len _ _ hit
 refine DoesG.enter Tryd.func45 rfl Tryd.ntmps45 rfl (M := (some b, blk l te) :: N) rfl (Z4 (Z2 (OW.boxA rfl rfl (fun b3 => (OW.boxA rfl rfl (fun b4 => (Z0 (Z5 rfl) rfl (Z6 ?_))))))))
 (refine Z1 ?_; refine Z4 ?_)
 refine Z2 (Z0 (Z5 rfl) rfl (Z6 ?_))
 (refine Z1 ?_; refine Z4 ?_; refine Z4 ?_)
 refine Z2 (Z0 (Z3 rfl) rfl (Z6 ?_))
 (refine Z1 ?_; refine CW.block ?_; refine Z4 ?_)
 cases s
 ·rename_i o n
  simp only [Slk.width, Slk.off, Slk.sz] at *
  obtain ⟨⟨x, e1⟩, hx, hf⟩ := Option.bind_eq_some_iff.1 hf
  obtain ⟨rfl, rfl⟩ := Prod.mk.inj (Zi hf)
  dsimp only at *
  have hxl : x.length ≤ n := by rcases getFixed_len hx with ⟨_, h⟩ | ⟨_, h⟩ <;> simp [h]
  refine Z2 (Z0 (RV.eql_f rfl rfl (by omega)) rfl (Z0 (Z5 rfl) rfl (Z6 (Z1 (Z135 rfl (Z4 (Z2 (Z0 (RV.eql_f rfl rfl (by omega)) rfl (Z0 (Z5 rfl) rfl ?_)))))))))
  refine Z6 (Z1 (Z135 rfl (Z4 (Z2 (Z0 (RV.eql_f rfl rfl (by omega)) rfl (Z0 (Z5 rfl) rfl (Z6 (Z1 (Z135 rfl (Z4 (Z2 ?_)))))))))))
  refine Z0 (Z5 rfl) rfl (Z6 ?_)
  (refine Z1 ?_; refine Z4 ?_)
  refine Z2 (Z0 (Z22 rfl Zh rfl rfl rfl rfl hcl) rfl (Z0 (Z3 rfl) rfl ?_))
  refine Z12 Tryd.call37 rfl (rlp_GetFixed_does w0 Φ ((some b4, blk cs 25) :: (some b3, blk (Slk.cells b (.text o n)) 96) :: (some b, blk l te) :: N) (fun w m => hΦ w (m.drop 3)) cs it n x e1 hit (by omega) hx) rfl rfl ?_; rintro _ _ ⟨B, ob, c, r, o1, heb, rfl, rfl⟩; refine Z20 (M' := (some b, blk l te) :: (some b3, blk (Slk.cells b (.text o n)) 96) :: (ob, blk (u8s x ++ r) 5) :: (B ++ N)) (fun w m => (m.sk1.sk2.sk3).pick [3, 2, 0] 4 rfl rfl) ?_
  refine Z0 (Z3 rfl) rfl (Z0 (Z17 rfl rfl) rfl (Z0 (Z17 rfl rfl) rfl (Z0 (Z5 rfl) rfl (Z0 (Z5 rfl) rfl (Z6 (Z1 (Z2 (Z0 (Z30 rfl rfl rfl rfl) rfl ?_))))))))
  refine Z0 (Z29 rfl (by (refine List.Mem.tail _ ?_; exact List.Mem.head _); done) rfl rfl rfl rfl) rfl ?_
  refine Z0 (Z3 rfl) rfl (OW.copyS (s := 1) rfl rfl rfl rfl (fun h => nomatch h) (by omega) (fun w m => m.rd0 (List.Mem.tail _ (List.Mem.tail _ Zh)) (fun h => o1.nilc (by decide) h)) ((Z100 _).trans (Nat.mul_one _).symm) (Z123 _) (o1.zeroO (by decide)) rfl (Z6 ?_))
  (refine Z27 ?_; refine Z1 ?_; refine Z4 ?_)
  refine Z2 (Z0 (Z3 rfl) rfl (Z0 (Z5 rfl) rfl (Z6 ?_)))
  (refine Z1 ?_; refine CW.ret ?_)
  refine Z106 (rs := [.tmp 6]) [.int .i64 (e1 : Int)] ((some b, blk (spl l o (u8s x)) te) :: (ob, blk (u8s x ++ r) 5) :: B) rfl ⟨rfl, trivial⟩ rfl ⟨_, _, heb, rfl, rfl, hxl, rfl⟩ (fun w m => ?_) _ (.inl rfl)
  rw [Nat.min_eq_left hxl, Nat.mul_one, List.take_of_length_le (by rw [Z100]; omega)] at m
  exact m.pick [0, 2] 3 rfl rfl
 ·rename_i o
  simp only [Slk.width, Slk.off, Slk.sz] at *
  obtain ⟨⟨x, e1⟩, hx, hf⟩ := Option.bind_eq_some_iff.1 hf
  obtain ⟨rfl, rfl⟩ := Prod.mk.inj (Zi hf)
  dsimp only at *
  refine Z2 (Z0 (RV.eql_t rfl rfl rfl) rfl (Z0 (Z5 rfl) rfl (Z6 (Z1 (CW.cond_t rfl (Z132 ((some b4, blk cs 25) :: (some b3, blk (Slk.cells b (.big o)) 96) :: N) [8] (fun w m => m.pick [0, 1] 3 rfl rfl) mixed (by kernel_rfl) (Z10 0 rfl (by kernel_rfl) rfl (Z30 rfl rfl rfl rfl) rfl (Z10 1 rfl (by kernel_rfl) rfl (Z29 rfl (List.Mem.tail _ Zh) rfl rfl rfl rfl) rfl ?_))))))))
  refine Z10 2 rfl (by kernel_rfl) rfl (Z22 rfl Zh rfl rfl rfl rfl hcl) rfl (Z11 3 rfl (by kernel_rfl) rfl Tryd.call83 rfl (fun N2 h2 => rlp_GetNumber_does w0 Φ N2 (fun w m => hΦ w ((h2 w m).drop 3)) cs it x e1 hit hx) rfl ?_)
  rintro _ B ⟨heb, rfl⟩
  refine Z10 4 rfl (by kernel_rfl) rfl (Z3 rfl) rfl (Z10 5 rfl (by kernel_rfl) rfl (Z17 rfl rfl) rfl (Z10 6 rfl (by kernel_rfl) rfl (Z17 rfl rfl) rfl (Z10 7 rfl (by kernel_rfl) rfl (RV.nilCheck rfl) rfl (Z19 (M' := (some b, blk l te) :: (some b4, blk cs 25) :: (some b3, blk (Slk.cells b (.big o)) 96) :: (B ++ N)) (fun w m => (m.sk0.sk1.sk2).pick [2, 0, 1] 3 rfl rfl) (fun w m => (m.pick [1, 2] 3 rfl rfl : Mem w0 w ((some b4, blk cs 25) :: (some b3, blk (Slk.cells b (.big o)) 96) :: (B ++ N))).sublist (List.Sublist.cons_cons _ (List.Sublist.cons_cons _ (List.sublist_append_right _ _)))) (XW.sv 8 rfl (by kernel_rfl) (Z133 rfl rfl rfl (Z115 _) rfl ((Z101 _).trans Zv) hsz) (fun w m => (m.pick [1, 2] 3 rfl rfl : Mem w0 w ((some b4, blk cs 25) :: (some b3, blk (Slk.cells b (.big o)) 96) :: (B ++ N))).sublist (List.Sublist.cons_cons _ (List.Sublist.cons_cons _ (List.sublist_append_right _ _)))) (Z10 9 rfl (by kernel_rfl) rfl (Z5 rfl) rfl (XW.nil (by kernel_rfl) ?_)))))))
  (refine Z27 ?_; refine Z1 ?_; refine Z4 ?_)
  refine Z2 (Z0 (Z3 rfl) rfl (Z0 (Z5 rfl) rfl (Z6 ?_)))
  (refine Z1 ?_; refine CW.ret ?_)
  refine Z106 (rs := [.tmp 6]) [.int .i64 (e1 : Int)] ((some b, blk (spl l o (u64s x.toList)) te) :: B) rfl ⟨rfl, trivial⟩ rfl ⟨_, _, heb, rfl, rfl, rfl⟩ (fun w m => m.pick [0] 3 rfl rfl) _ (.inl rfl)
 ·rename_i o
  simp only [Slk.width, Slk.off, Slk.sz] at *
  obtain ⟨⟨x, e1⟩, hx, hf⟩ := Option.bind_eq_some_iff.1 hf
  obtain ⟨rfl, rfl⟩ := Prod.mk.inj (Zi hf)
  dsimp only at *
  refine Z2 (Z0 (RV.eql_f rfl rfl (by decide)) rfl (Z0 (Z5 rfl) rfl (Z6 (Z1 (Z135 rfl (Z4 (Z2 (Z0 (RV.eql_t rfl rfl rfl) rfl (Z0 (Z5 rfl) rfl ?_)))))))))
  refine Z6 (Z1 (CW.cond_t rfl (Z132 ((some b4, blk cs 25) :: (some b3, blk (Slk.cells b (.word o)) 96) :: N) [8] (fun w m => m.pick [0, 1] 3 rfl rfl) mixed (by kernel_rfl) (Z10 0 rfl (by kernel_rfl) rfl (Z30 rfl rfl rfl rfl) rfl (Z10 1 rfl (by kernel_rfl) rfl (Z29 rfl (List.Mem.tail _ Zh) rfl rfl rfl rfl) rfl (Z10 2 rfl (by kernel_rfl) rfl (Z22 rfl Zh rfl rfl rfl rfl hcl) rfl (Z11 3 rfl (by kernel_rfl) rfl Tryd.call38 rfl (fun N2 h2 => rlp_GetSmall_does w0 Φ N2 (fun w m => hΦ w ((h2 w m).drop 3)) cs it x e1 hit hx) rfl ?_)))))))
  rintro _ B ⟨heb, rfl⟩
  refine Z10 4 rfl (by kernel_rfl) rfl (Z3 rfl) rfl (Z10 5 rfl (by kernel_rfl) rfl (Z17 rfl rfl) rfl (Z10 6 rfl (by kernel_rfl) rfl (Z17 rfl rfl) rfl (Z10 7 rfl (by kernel_rfl) rfl (RV.nilCheck rfl) rfl (Z19 (M' := (some b, blk l te) :: (some b4, blk cs 25) :: (some b3, blk (Slk.cells b (.word o)) 96) :: (B ++ N)) (fun w m => (m.sk0.sk1.sk2).pick [2, 0, 1] 3 rfl rfl) (fun w m => (m.pick [1, 2] 3 rfl rfl : Mem w0 w ((some b4, blk cs 25) :: (some b3, blk (Slk.cells b (.word o)) 96) :: (B ++ N))).sublist (List.Sublist.cons_cons _ (List.Sublist.cons_cons _ (List.sublist_append_right _ _)))) (XW.sv 8 rfl (by kernel_rfl) (SV.store rfl rfl rfl rfl rfl (by omega)) (fun w m => (m.pick [1, 2] 3 rfl rfl : Mem w0 w ((some b4, blk cs 25) :: (some b3, blk (Slk.cells b (.word o)) 96) :: (B ++ N))).sublist (List.Sublist.cons_cons _ (List.Sublist.cons_cons _ (List.sublist_append_right _ _)))) (Z10 9 rfl (by kernel_rfl) rfl (Z5 rfl) rfl (XW.nil (by kernel_rfl) ?_)))))))
  (refine Z27 ?_; refine Z1 ?_; refine Z4 ?_)
  refine Z2 (Z0 (Z3 rfl) rfl (Z0 (Z5 rfl) rfl (Z6 ?_)))
  (refine Z1 ?_; refine CW.ret ?_)
  refine Z106 (rs := [.tmp 6]) [.int .i64 (e1 : Int)] ((some b, blk (l.set o (U64 x)) te) :: B) rfl ⟨rfl, trivial⟩ rfl ⟨_, _, heb, rfl, rfl, rfl⟩ (fun w m => m.pick [0] 3 rfl rfl) _ (.inl rfl)
 ·rename_i o
  simp only [Slk.width, Slk.off, Slk.sz] at *
  obtain ⟨⟨x, e1⟩, hx, hf⟩ := Option.bind_eq_some_iff.1 hf
  obtain ⟨rfl, rfl⟩ := Prod.mk.inj (Zi hf)
  dsimp only at *
  refine Z2 (Z0 (RV.eql_f rfl rfl (by decide)) rfl (Z0 (Z5 rfl) rfl (Z6 (Z1 (Z135 rfl (Z4 (Z2 (Z0 (RV.eql_f rfl rfl (by decide)) rfl (Z0 (Z5 rfl) rfl ?_)))))))))
  refine Z6 (Z1 (Z135 rfl (Z4 (Z2 (Z0 (RV.eql_t rfl rfl rfl) rfl (Z0 (Z5 rfl) rfl (Z6 (Z1 (CW.cond_t rfl (Z4 ?_))))))))))
  refine Z132 ((some b4, blk cs 25) :: (some b3, blk (Slk.cells b (.ext o)) 96) :: N) [8] (fun w m => m.pick [0, 1] 3 rfl rfl) mixed (by kernel_rfl) (Z10 0 rfl (by kernel_rfl) rfl (Z30 rfl rfl rfl rfl) rfl (Z10 1 rfl (by kernel_rfl) rfl (Z29 rfl (List.Mem.tail _ Zh) rfl rfl rfl rfl) rfl (Z10 2 rfl (by kernel_rfl) rfl (Z22 rfl Zh rfl rfl rfl rfl hcl) rfl (Z11 3 rfl (by kernel_rfl) rfl Tryd.call84 rfl (fun N2 h2 => rlp_GetText_does w0 Φ N2 (fun w m => hΦ w ((h2 w m).drop 3)) cs it x e1 hit hx) rfl ?_))))
  rintro _ _ ⟨B, ob, c, r, o1, heb, rfl, rfl⟩
  refine Z10 4 rfl (by kernel_rfl) rfl (Z3 rfl) rfl (Z10 5 rfl (by kernel_rfl) rfl (Z17 rfl rfl) rfl (Z10 6 rfl (by kernel_rfl) rfl (Z17 rfl rfl) rfl (Z10 7 rfl (by kernel_rfl) rfl (RV.nilCheck rfl) rfl (Z19 (M' := (some b, blk l te) :: (some b4, blk cs 25) :: (some b3, blk (Slk.cells b (.ext o)) 96) :: (ob, blk (u8s x ++ r) 5) :: (B ++ N)) (fun w m => (m.sk1.sk2.sk3).pick [3, 1, 2, 0] 4 rfl rfl) (fun w m => (m.pick [1, 2] 4 rfl rfl : Mem w0 w ((some b4, blk cs 25) :: (some b3, blk (Slk.cells b (.ext o)) 96) :: (B ++ N))).sublist (List.Sublist.cons_cons _ (List.Sublist.cons_cons _ (List.sublist_append_right _ _)))) (XW.sv 8 rfl (by kernel_rfl) (SV.store rfl rfl rfl rfl rfl (by omega)) (fun w m => (m.pick [1, 2] 4 rfl rfl : Mem w0 w ((some b4, blk cs 25) :: (some b3, blk (Slk.cells b (.ext o)) 96) :: (B ++ N))).sublist (List.Sublist.cons_cons _ (List.Sublist.cons_cons _ (List.sublist_append_right _ _)))) (Z10 9 rfl (by kernel_rfl) rfl (Z5 rfl) rfl (XW.nil (by kernel_rfl) ?_)))))))
  have hmx := o1.mx
  have hvx := o1.view (te := 5) (w0 := w0) (Ψ := More w0 Φ ((ob, blk (u8s x ++ r) 5) :: B)) (by decide) (fun w q => q.2.sublist (List.singleton_sublist.2 (List.mem_cons_self ..)))
  have hst : (l.set o (sl ob 0 x.length c))[o]? = some (sl ob 0 x.length c) := List.getElem?_set_self (by omega)
  by_cases h1 : e1 = 0
  ·subst h1
   (refine Z1 ?_; refine Z4 ?_)
   refine Z2 (Z0 (Z3 rfl) rfl (Z0 (RV.eql_t rfl rfl rfl) rfl (Z0 (Z3 rfl) rfl ?_)))
   refine Z24 rfl ?_; refine Z0 (Z30 rfl rfl rfl rfl) rfl ?_
   refine Z24 rfl ?_; refine Z0 (Z29 rfl (List.Mem.tail _ (List.Mem.tail _ Zh)) rfl rfl rfl rfl) rfl ?_
   refine Z24 rfl ?_; refine Z0 (RV.nilCheck rfl) rfl ?_
   refine Z24 rfl ?_; refine Z0 (Z29 rfl Zh rfl rfl rfl hst) rfl ?_
   refine Z24 rfl ?_; refine Z0 (RV.len rfl rfl) rfl ?_
   refine Z24 rfl ?_; refine Z0 (RV.gtr rfl rfl) rfl ?_
   refine Z0 (Z108 rfl rfl rfl) rfl (Z6 (Z1 ?_))
   by_cases h2 : 32 < x.length
   ·rw [if_pos ⟨rfl, h2⟩]
    refine Z13 rfl (decide_eq_true (by omega)) (Z4 (Z2 (Z0 (Z5 rfl) rfl (Z6 ?_))))
    (refine Z1 ?_; refine CW.ret ?_; refine Z16 ?_; refine Z8 ?_)
    refine Z106 (rs := [.tmp 6]) [.int .i64 192] ((some b, blk (l.set o (sl ob 0 x.length c)) te) :: (ob, blk (u8s x ++ r) 5) :: B) rfl ⟨rfl, trivial⟩ rfl ⟨_, _, by omega, rfl, rfl, _, _, rfl, hvx.mono (fun w q => q)⟩ (fun w m => m.pick [0, 3] 4 rfl rfl) _ (.inl rfl)
   ·rw [if_neg (fun h => h2 h.2)]
    refine Z14 rfl (decide_eq_false (by omega)) ?_
    (refine CW.skip ?_; refine Z27 ?_; refine Z1 ?_; refine Z4 ?_)
    refine Z2 (Z0 (Z3 rfl) rfl (Z0 (Z5 rfl) rfl (Z6 ?_)))
    (refine Z1 ?_; refine CW.ret ?_)
    refine Z106 (rs := [.tmp 6]) [.int .i64 ((0 : Nat) : Int)] ((some b, blk (l.set o (sl ob 0 x.length c)) te) :: (ob, blk (u8s x ++ r) 5) :: B) rfl ⟨rfl, trivial⟩ rfl ⟨_, _, by omega, rfl, rfl, _, _, rfl, hvx.mono (fun w q => q)⟩ (fun w m => m.pick [0, 3] 4 rfl rfl) _ (.inl rfl)
  ·rw [if_neg (fun h => h1 h.1)]
   (refine Z1 ?_; refine Z4 ?_)
   refine Z2 (Z0 (Z3 rfl) rfl (Z0 (RV.eql_f rfl rfl (by omega)) rfl (Z0 (Z3 rfl) rfl (Z23 rfl rfl rfl (Z23 rfl rfl rfl (Z23 rfl rfl rfl (Z23 rfl rfl rfl ?_)))))))
   refine Z23 rfl rfl rfl (Z23 rfl rfl rfl (Z0 (Z110 rfl rfl rfl) rfl (Z6 (Z1 (Z135 rfl ?_)))))
   (refine CW.skip ?_; refine Z27 ?_; refine Z1 ?_; refine Z4 ?_)
   refine Z2 (Z0 (Z3 rfl) rfl (Z0 (Z5 rfl) rfl (Z6 ?_)))
   (refine Z1 ?_; refine CW.ret ?_)
   refine Z106 (rs := [.tmp 6]) [.int .i64 (e1 : Int)] ((some b, blk (l.set o (sl ob 0 x.length c)) te) :: (ob, blk (u8s x ++ r) 5) :: B) rfl ⟨rfl, trivial⟩ rfl ⟨_, _, heb, rfl, rfl, _, _, rfl, hvx.mono (fun w q => q)⟩ (fun w m => m.pick [0, 3] 4 rfl rfl) _ (.inl rfl)
theorem header_Parse_does (w0 : World) (Φ : Ctx) (N : List Ent) (hΦ : ∀ w, Mem w0 w N → Φ w) (cs0_ : List Value) (a0 : It) (res0 : Hdr) (res1 : Nat) (ha0 : ItRd Φ cs0_ a0) (hg0 : View Φ (some ⟨0, 0, none⟩) 21 21 1 (i64s fieldsL)) (hf : header_Parse a0 = some (res0, res1)) : DoesG Tryd.prog 16 [.agg cs0_.toArray] w0 [] N (fun v G => ∃ B : List Ent, ∃ cr0 : List Value, (HdrRd (More w0 Φ B) cr0 res0) ∧ (res1 ≤ 9223372036854775807) ∧ v = .tuple #[.agg cr0.toArray, .int .i64 ((res1 : Nat) : Int)] ∧ G = B) := by
 unfold header_Parse at hf
 obtain ⟨⟨its, e⟩, he, hf⟩ := Option.bind_eq_some_iff.1 hf
 dsimp only at hf
 have hcl := ItRd.len _ _ ha0
 have hzero : ∀ Ψ, HdrRd Ψ (Hdr.zero.C none 0).C Hdr.zero := fun Ψ => ⟨none, 0, rfl, View.nil, by decide, by decide⟩
 refine DoesG.enter Tryd.func16 rfl Tryd.ntmps16 rfl (M := N) rfl (Z4 (Z2 (OW.boxA rfl rfl (fun b1 => (OW.alloc (l := (Hdr.zero.C none 0).C) rfl Z121 rfl (fun b2 => (Z0 (Z5 rfl) rfl (Z6 (Z1 (CW.scope0 (Z4 (Z2 ?_))))))))))))
 refine Z0 (Z22 rfl (List.Mem.tail _ Zh) rfl rfl rfl rfl hcl) rfl ?_
 refine Z12 Tryd.call42 rfl (rlp_GetList_does w0 Φ ((some b2, blk (Hdr.zero.C none 0).C 38) :: (some b1, blk cs0_ 25) :: N) (fun w m => hΦ w (m.drop 2)) cs0_ a0 its e ha0 he) rfl rfl ?_; rintro _ _ ⟨B0, cr, oi, ci, ri, hri, oo, heb, rfl, rfl⟩; refine Z20 (M' := (some b2, blk (Hdr.zero.C none 0).C 38) :: (((oi, blk (cr ++ ri) 25) :: B0) ++ N)) (fun w m => (m.sk1.sk2).pick [1, 0] 3 rfl rfl) ?_
 refine Z0 (Z3 rfl) rfl (Z0 (Z17 rfl rfl) rfl (Z0 (Z17 rfl rfl) rfl (Z0 (Z5 rfl) rfl (Z0 (Z5 rfl) rfl (Z6 ?_)))))
 (refine Z1 ?_; refine Z4 ?_; refine Z4 ?_)
 by_cases h1 : e = 0
 case neg =>
  rw [if_neg h1] at hf
  obtain ⟨rfl, rfl⟩ := Prod.mk.inj (Zi hf)
  refine Z2 (Z0 (Z3 rfl) rfl (Z0 (RV.neq_t rfl rfl (by omega)) rfl (Z6 (Z1 (CW.cond_t rfl (Z4 (Z2 (Z0 (Z109 (l := (Hdr.zero.C none 0).C) (cs := (Hdr.zero.C none 0).C) [] rfl rfl rfl Z121 rfl rfl rfl) rfl (Z0 (Z3 rfl) rfl ?_)))))))))
  refine Z28 (Z105 rfl rfl rfl zhdr_one rfl Z111 Z111) (Z0 (Z5 rfl) rfl (Z6 ?_))
  (refine Z1 ?_; refine CW.ret ?_; refine Z8 ?_)
  refine QW.scope_r ?_
  refine Z106 (rs := [.cell 2 38, .tmp 3]) [.agg ((Hdr.zero.C none 0).C).toArray, .int .i64 (e : Int)] ((some b2, blk (Hdr.zero.C none 0).C 38) :: []) rfl ?_ rfl ?_ ?_ _ (.inl rfl)
  ·exact ⟨⟨_, _, _, _, rfl, Zh, rfl, rfl, (by rw [Z111]; rfl), rfl⟩, rfl, trivial⟩
  ·exact ⟨_, _, hzero _, heb, rfl, rfl⟩
  ·exact fun w m => m.pick [0] 1 rfl rfl |>.sublist (List.Sublist.cons_cons _ (List.sublist_append_right _ _))
 subst h1
 rw [if_pos rfl] at hf
 obtain ⟨t, ht, hf⟩ := Option.bind_eq_some_iff.1 hf
 have hmi := oo.mx
 refine Z2 (Z0 (Z3 rfl) rfl (Z0 (RV.neq_f rfl rfl (by omega)) rfl (Z6 (Z1 (Z135 rfl ?_)))))
 (refine CW.skip ?_; refine Z1 ?_; refine Z4 ?_)
 refine Z2 (Z0 (Z3 rfl) rfl (Z0 (RV.len rfl rfl) rfl ?_))
 refine Z12 Tryd.call43 rfl (header_tailOf_does w0 (fun _ => True) ((some b2, blk (Hdr.zero.C none 0).C 38) :: (((oi, blk (cr ++ ri) 25) :: B0) ++ N)) (fun _ _ => trivial) _ t (by omega) ht) rfl rfl ?_; rintro _ G1 ⟨htb, rfl⟩; refine Z20 (M' := (some b2, blk (Hdr.zero.C none 0).C 38) :: (((oi, blk (cr ++ ri) 25) :: B0) ++ N)) (fun w m => m.appR) ?_
 refine Z0 (Z109 (l := (Hdr.zero.C none 0).C) (cs := (({ Hdr.zero with tail := t } : Hdr).C none 0).C) [(15, [.int .i64 t])] rfl rfl rfl Z121 rfl rfl (fillL_one rfl (by rw [Z111]; decide) (HdrC.C_tail_set _ t))) rfl ?_
 refine OW.alloc (l := (Hdr.zero.C none 0).C) rfl Z121 rfl (fun b6 => (Z28 (Z105 rfl rfl rfl zhdr_one rfl Z111 Z111) (Z6 ?_)))
 (refine Z1 ?_; refine Z4 ?_; refine Z4 ?_)
 have hvi : View (More w0 Φ ((oi, blk (cr ++ ri) 25) :: B0)) (oi.map fun k => ⟨k, 0, none⟩) its.length ci 3 cr := oo.view (te := 25) (w0 := w0) (by decide) (fun w q => q.2.sublist (List.singleton_sublist.2 (List.mem_cons_self ..)))
 replace hri := hri.mono (ItRd.mono (Ψ := More w0 Φ ((oi, blk (cr ++ ri) 25) :: B0)) (fun w q => ⟨q.1, q.2.tail⟩))
 have htl : ((({ Hdr.zero with tail := t } : Hdr).C none 0).C)[485]? = some (.int .i64 t) := Z143 _
 by_cases h2 : t < 0
 ·rw [if_pos h2] at hf
  obtain ⟨rfl, rfl⟩ := Prod.mk.inj (Zi hf)
  refine Z2 (Z0 (Z30 rfl rfl rfl rfl) rfl (Z0 (Z29 rfl Zh rfl rfl rfl htl) rfl (Z0 (RV.lss_t rfl rfl h2) rfl (Z6 (Z1 (CW.cond_t rfl (Z4 (Z2 ?_))))))))
  refine Z0 (Z109 (l := (Hdr.zero.C none 0).C) (cs := (Hdr.zero.C none 0).C) [] rfl rfl rfl Z121 rfl rfl rfl) rfl ?_; refine OW.rot1 ?_
  refine Z28 (Z105 rfl rfl rfl zhdr_one rfl Z111 Z111) (Z0 (Z5 rfl) rfl (Z6 ?_))
  (refine Z1 ?_; refine CW.ret ?_; refine Z8 ?_)
  refine QW.scope_r ?_
  refine Z106 (rs := [.cell 2 38, .tmp 3]) [.agg ((Hdr.zero.C none 0).C).toArray, .int .i64 190] ((some b2, blk (Hdr.zero.C none 0).C 38) :: []) rfl ?_ rfl ?_ ?_ _ (.inl rfl)
  ·exact ⟨⟨_, _, _, _, rfl, Zh, rfl, rfl, (by rw [Z111]; rfl), rfl⟩, rfl, trivial⟩
  ·exact ⟨_, _, hzero _, by omega, rfl, rfl⟩
  ·exact fun w m => (m.pick [0] 2 rfl rfl : Mem w0 w ((some b2, blk (Hdr.zero.C none 0).C 38) :: (((oi, blk (cr ++ ri) 25) :: B0) ++ N))).sublist (List.Sublist.cons_cons _ (List.sublist_append_right _ _))
 rw [if_neg h2] at hf
 have hn21 := tailOf_le ht h2
 obtain ⟨⟨h3, e3⟩, hp, hf⟩ := Option.bind_eq_some_iff.1 hf
 dsimp only at hf
 refine Z2 (Z0 (Z30 rfl rfl rfl rfl) rfl (Z0 (Z29 rfl Zh rfl rfl rfl htl) rfl (Z0 (RV.lss_f rfl rfl h2) rfl (Z6 (Z1 (Z135 rfl ?_))))))
 (refine CW.skip ?_; refine Z1 ?_; refine Z4 ?_)
 refine Z2 (Z0 (Z5 rfl) rfl (Z6 ?_))
 (refine Z1 ?_; refine Z4 ?_)
 refine CW.label ?_
 (refine Z1 ?_; refine Z4 ?_; refine Z4 ?_)
 refine Z2 ?_
 refine Z12 Tryd.call44 rfl (header_slots_does w0 ((some b6, blk (({ Hdr.zero with tail := t } : Hdr).C none 0).C 38) :: (some b2, blk (Hdr.zero.C none 0).C 38) :: (((oi, blk (cr ++ ri) 25) :: B0) ++ N)) b6) rfl rfl ?_; rintro _ G2 ⟨_, rfl, rfl⟩; refine Z20 (M' := (some b6, blk (({ Hdr.zero with tail := t } : Hdr).C none 0).C 38) :: (some b2, blk (Hdr.zero.C none 0).C 38) :: (((oi, blk (cr ++ ri) 25) :: B0) ++ N)) (fun w m => m.appR) ?_
 refine Z0 (Z3 rfl) rfl (Z6 (Z1 ?_))
 refine Z120 (fun L' M' => ∃ (A : Option Addr) (c : Nat) (Bx : List Ent), h3.tail = t ∧ e3 ≤ 9223372036854775807 ∧ View (More w0 Φ Bx) A h3.extra.length c 1 (u8s h3.extra) ∧ L' = [(2, ptr (some b2) 0), (5, .int .i64 (e3 : Int)), (6, ptr (some b6) 0)] ∧ M' = (some b6, blk (h3.C A c).C 38) :: (some b2, blk (Hdr.zero.C none 0).C 38) :: (Bx ++ N)) ?_ ?_
 ·rintro L7 M7 ⟨A, c, Bx, ht3, hb3, hv3, rfl, rfl⟩
  by_cases h4 : e3 = 0
  ·subst h4
   rw [if_pos rfl] at hf
   obtain ⟨rfl, rfl⟩ := Prod.mk.inj (Zi hf)
   (refine Z1 ?_; refine Z4 ?_; refine Z4 ?_)
   refine Z2 (Z0 (Z3 rfl) rfl (Z0 (RV.neq_f rfl rfl (by omega)) rfl (Z6 (Z1 (Z135 rfl ?_)))))
   (refine CW.skip ?_; refine Z1 ?_; refine Z4 ?_)
   refine Z2 ?_
   refine Z0 (Z22 rfl Zh rfl rfl rfl rfl Z111) rfl ?_; refine OW.rot1 ?_
   refine Z28 (Z105 rfl rfl rfl zhdr_one rfl Z111 Z111) (Z0 (Z5 rfl) rfl (Z6 ?_))
   (refine Z1 ?_; refine CW.ret ?_)
   refine QW.scope_r ?_
   refine Z106 (rs := [.cell 2 38, .tmp 3]) [.agg ((h3.C A c).C).toArray, .int .i64 ((0 : Nat) : Int)] ((some b2, blk (h3.C A c).C 38) :: Bx) rfl ?_ rfl ?_ ?_ _ (.inl rfl)
   ·exact ⟨⟨_, _, _, _, rfl, Zh, rfl, rfl, (by rw [Z111]; rfl), rfl⟩, rfl, trivial⟩
   ·exact ⟨_, _, ⟨A, c, rfl, hv3.mono (fun w q => ⟨q.1, q.2.tail⟩), by rw [ht3]; exact htb⟩, by omega, rfl, rfl⟩
   ·exact fun w m => m.pick [0] 2 rfl rfl
  ·rw [if_neg h4] at hf
   obtain ⟨rfl, rfl⟩ := Prod.mk.inj (Zi hf)
   (refine Z1 ?_; refine Z4 ?_; refine Z4 ?_)
   refine Z2 (Z0 (Z3 rfl) rfl (Z0 (RV.neq_t rfl rfl (by omega)) rfl (Z6 (Z1 (CW.cond_t rfl (Z4 (Z2 ?_)))))))
   refine Z0 (Z109 (l := (Hdr.zero.C none 0).C) (cs := (Hdr.zero.C none 0).C) [] rfl rfl rfl Z121 rfl rfl rfl) rfl ?_; refine OW.rot1 ?_
   refine Z0 (Z3 rfl) rfl (Z28 (Z105 rfl rfl rfl zhdr_one rfl Z111 Z111) (Z0 (Z5 rfl) rfl (Z6 ?_)))
   (refine Z1 ?_; refine CW.ret ?_; refine Z8 ?_)
   refine QW.scope_r ?_
   refine Z106 (rs := [.cell 2 38, .tmp 3]) [.agg ((Hdr.zero.C none 0).C).toArray, .int .i64 (e3 : Int)] ((some b2, blk (Hdr.zero.C none 0).C 38) :: []) rfl ?_ rfl ?_ ?_ _ (.inl rfl)
   ·exact ⟨⟨_, _, _, _, rfl, Zh, rfl, rfl, (by rw [Z111]; rfl), rfl⟩, rfl, trivial⟩
   ·exact ⟨_, _, hzero _, hb3, rfl, rfl⟩
   ·exact fun w m => (m.pick [0] 2 rfl rfl : Mem w0 w ((some b2, blk (Hdr.zero.C none 0).C 38) :: (Bx ++ N))).sublist (List.Sublist.cons_cons _ (List.sublist_append_right _ _))
 ·refine CW.block ?_
  refine Z138 (fun k L' M' => ∃ (i : Nat) (hh : Hdr) (e : Nat) (A : Option Addr) (c : Nat) (Bx : List Ent), k = 21 - i ∧ i ≤ 21 ∧ e ≤ 9223372036854775807 ∧ ((e = 0 ∧ i ≤ its.length ∧ parseL i (its.drop i) hh = some (h3, e3)) ∨ (e ≠ 0 ∧ hh = h3 ∧ e = e3)) ∧ hh.tail = t ∧ (∀ w, Mem w0 w Bx → Mem w0 w ((oi, blk (cr ++ ri) 25) :: B0)) ∧ View (More w0 Φ Bx) A hh.extra.length c 1 (u8s hh.extra) ∧
   L' = [(2, ptr (some b2) 0), (4, sl oi 0 its.length ci), (5, .int .i64 (e : Int)), (6, ptr (some b6) 0), (26, .agg (slotC b6).toArray), (27, .int .i64 (i : Int))] ∧ M' = (some b6, blk (hh.C A c).C 38) :: (some b2, blk (Hdr.zero.C none 0).C 38) :: (Bx ++ N)) (k0 := 21)
   ⟨0, _, 0, none, 0, (oi, blk (cr ++ ri) 25) :: B0, rfl, by omega, by omega, .inl ⟨rfl, by omega, hp⟩, rfl, (fun w m => m), View.nil, rfl, rfl⟩ ⟨rfl, rfl, rfl, rfl, rfl, rfl, trivial⟩ (fun w m => m) ?_
  rintro k L' M' ⟨i, hh, e, A, c, Bx, rfl, hi, heb2, hst, htt, hB, hvx, rfl, rfl⟩
  refine Z4 (Z2 (Z0 (RV.lss rfl rfl) rfl (Z6 ?_)))
  (refine Z1 ?_; refine Z4 ?_)
  by_cases hlt : i < 21
  ·refine Z13 rfl (decide_eq_true (by omega)) ?_
   obtain ⟨s, hs⟩ : ∃ s, slotL[i]? = some s := ⟨_, List.getElem?_eq_getElem (show i < slotL.length from hlt)⟩
   have hsl := slot_le hs
   have hsw := slot_width hs
   (refine CW.skip ?_; refine Z1 ?_; refine Z4 ?_; refine CW.block ?_; refine Z4 ?_)
   refine Z2 (Z0 (Z3 rfl) rfl (Z0 (RV.indexVs i rfl rfl rfl rfl rfl rfl rfl (by omega) (slotC_part b6 i hs)) rfl (OW.alloc rfl rfl rfl (fun b8 => (Z0 (Z5 rfl) rfl (Z28 (Z105 rfl rfl rfl (Slk.cells_one b6 s) rfl rfl (Slk.cells_length b6 s)) (Z6 ?_)))))))
   (refine Z1 ?_; refine CW.block ?_; refine Z4 ?_)
   refine Z2 (Z0 (Z3 rfl) rfl (Z0 (Z3 rfl) rfl (Z0 (RV.len rfl rfl) rfl (Z0 (RV.eql rfl rfl) rfl (Z0 (Z5 rfl) rfl (Z6 (Z1 ?_)))))))
   by_cases hil : i = its.length
   ·refine Z13 rfl (decide_eq_true (by omega)) (CW.exit ?_)
    (refine QW.block_xn rfl ?_; refine QW.block_xn rfl ?_; refine Z9 ?_; refine Z9 ?_; refine Z15 ?_)
    have hfin : hh = h3 ∧ e = e3 := by
     rcases hst with ⟨rfl, _, hq⟩ | ⟨_, h5, h6⟩
     ·rw [List.drop_of_length_le (by omega), parseL] at hq
      obtain ⟨rfl, rfl⟩ := Prod.mk.inj (Zi hq)
      exact ⟨rfl, rfl⟩
     ·exact ⟨h5, h6⟩
    obtain ⟨rfl, rfl⟩ := hfin
    exact QW.join ⟨A, c, Bx, htt, heb2, hvx, rfl, rfl⟩ ⟨rfl, rfl, rfl, trivial⟩ (fun w m => m.tail)
   ·refine Z14 rfl (decide_eq_false (by omega)) (Z4 (Z2 (Z0 (Z3 rfl) rfl (Z0 (RV.eql rfl rfl) rfl (Z0 (Z5 rfl) rfl (Z6 (Z1 ?_)))))))
    by_cases he0 : e = 0
    ·subst he0
     refine Z13 rfl (by rfl) ?_
     obtain ⟨_, h6, hq⟩ | ⟨h6, _⟩ := hst
     case inr => exact absurd rfl h6
     have h7 : i < its.length := by omega
     have hx : its[i]? = some its[i] := List.getElem?_eq_getElem h7
     rw [List.drop_eq_getElem_cons h7, parseL, hs] at hq
     obtain ⟨⟨fd, e2⟩, hr, hq⟩ := Option.bind_eq_some_iff.1 hq
     dsimp only at hq
     obtain ⟨ci2, hci, hcc⟩ := hri.get ItRd.len hx
     have hcl2 : ci2.length = 3 := ItRd.len _ _ hci
     have hΨ : ∀ w, Mem w0 w ((some b8, blk (s.cells b6) 96) :: (some b2, blk (Hdr.zero.C none 0).C 38) :: (Bx ++ N)) → More w0 Φ ((oi, blk (cr ++ ri) 25) :: B0) w := fun w m => ⟨hΦ w m.tail.tail.appR, hB w m.tail.tail.appL⟩
     have hΨ2 : ∀ w, Mem w0 w ((some b8, blk (s.cells b6) 96) :: (some b2, blk (Hdr.zero.C none 0).C 38) :: (Bx ++ N)) → More w0 Φ Bx w := fun w m => ⟨hΦ w m.tail.tail.appR, m.tail.tail.appL⟩
     refine Z132 ((some b8, blk (s.cells b6) 96) :: (some b2, blk (Hdr.zero.C none 0).C 38) :: (Bx ++ N)) [8] (fun w m => m.pick [0, 2] 3 rfl rfl) mixed (by kernel_rfl) (Z10 0 rfl (by kernel_rfl) rfl (Z22 rfl Zh rfl rfl rfl rfl (Slk.cells_length b6 s)) rfl (Z10 1 rfl (by kernel_rfl) rfl (Z3 rfl) rfl (Z10 2 rfl (by kernel_rfl) rfl (Z3 rfl) rfl (Z10 3 rfl (by kernel_rfl) rfl (RV.idx_rs (i) rfl rfl rfl rfl rfl (hvi.isSome (by decide) h7) (by omega)) rfl (Z10 4 rfl (by kernel_rfl) rfl (RV.loadAs rfl rfl rfl rfl (fun w m => hvi.load (hΨ w m) hcc) hcl2) rfl (Z10 5 rfl (by kernel_rfl) rfl (Z3 rfl) rfl (Z10 6 rfl (by kernel_rfl) rfl (RV.idx_arr_at (a := ⟨0, 0, none⟩) rfl rfl rfl rfl (by omega) (by omega)) rfl ?_)))))))
     refine XW.slot (rptr (some ⟨0, 0, none⟩) i) (congrArg (fun k => Value.pointer (some (Addr.add ⟨0, 0, none⟩ k))) (Nat.mul_one _)) (Z10 7 rfl (by kernel_rfl) rfl (Z21 rfl rfl rfl (fun w m => hg0.cell (hΨ w m).1 (i64s_at hsw))) rfl (Z19 (M' := (some b6, blk (hh.C A c).C 38) :: (some b8, blk (s.cells b6) 96) :: (some b2, blk (Hdr.zero.C none 0).C 38) :: (Bx ++ N)) (fun w m => m.rot1) (fun w m => m.tail) ?_))
     refine XW.callE 8 rfl (by kernel_rfl) rfl Tryd.call45 rfl (fun N2 h2 => hslot_read_does w0 (More w0 Φ Bx) N2 (fun w m => hΨ2 w (h2 w m)) b6 s (hh.C A c).C 38 ci2 its[i] fd e2 hsl.1 (by rw [Z111]; exact hsl.2) (ItRd.mono (fun w q => ⟨q.1, hB w q.2⟩) _ _ hci) hr) (fun w m => m) rfl ?_
     rintro _ _ ⟨B2, l', heb3, rfl, rfl, hwr⟩
     obtain ⟨A2, c2, rfl, hv2⟩ := hwr.put hs (hvx.mono (fun w q => q.1))
     refine Z19 (M' := (some b6, blk ((hh.put i fd).C A2 c2).C 38) :: (some b8, blk (s.cells b6) 96) :: (some b2, blk (Hdr.zero.C none 0).C 38) :: (B2 ++ (Bx ++ N))) (fun w m => m.sk1.sk2) (fun w m => m.tail.sublist (List.Sublist.cons_cons _ (List.Sublist.cons_cons _ (List.sublist_append_right _ _)))) (Z10 9 rfl (by kernel_rfl) rfl (Z5 rfl) rfl (XW.nil (by kernel_rfl) ?_))
     (refine Z27 ?_; refine Z27 ?_; refine Z1 ?_)
     refine Z2 (Z0 (RV.add rfl rfl (by omega)) rfl (Z0 (Z3 rfl) rfl (Z6 ?_)))
     refine Z131 (k' := 21 - (i + 1)) (by omega) ⟨i + 1, hh.put i fd, e2, A2, c2, B2 ++ Bx, rfl, by omega, heb3, ?_, by rw [Z113]; exact htt, fun w m => hB w m.appR, hv2.mono (fun w q => q.flat), rfl, rfl⟩ ⟨rfl, rfl, rfl, rfl, rfl, rfl, trivial⟩ (fun w m => by rw [List.append_assoc]; exact m.pick [0, 2] 3 rfl rfl)
     by_cases h8 : e2 = 0
     ·rw [if_pos h8] at hq
      exact .inl ⟨h8, by omega, hq⟩
     ·rw [if_neg h8] at hq
      obtain ⟨rfl, rfl⟩ := Prod.mk.inj (Zi hq)
      exact .inr ⟨h8, rfl, rfl⟩
    ·refine Z14 rfl (decide_eq_false (by omega)) ?_
     (refine CW.skip ?_; refine Z27 ?_; refine Z27 ?_; refine Z1 ?_)
     refine Z2 (Z0 (RV.add rfl rfl (by omega)) rfl (Z0 (Z3 rfl) rfl (Z6 ?_)))
     refine Z131 (k' := 21 - (i + 1)) (by omega) ⟨i + 1, hh, e, A, c, Bx, rfl, by omega, heb2, .inr (hst.resolve_left (fun h => he0 h.1)), htt, hB, hvx, rfl, rfl⟩ ⟨rfl, rfl, rfl, rfl, rfl, rfl, trivial⟩ (fun w m => m.tail)
  ·refine Z14 rfl (decide_eq_false (by omega)) (CW.exit ?_)
   (refine Z9 ?_; refine Z9 ?_; refine Z15 ?_)
   have hfin : hh = h3 ∧ e = e3 := by
    rcases hst with ⟨rfl, _, hq⟩ | ⟨_, h5, h6⟩
    ·rw [List.drop_of_length_le (by omega), parseL] at hq
     obtain ⟨rfl, rfl⟩ := Prod.mk.inj (Zi hq)
     exact ⟨rfl, rfl⟩
    ·exact ⟨h5, h6⟩
   obtain ⟨rfl, rfl⟩ := hfin
   exact QW.join ⟨A, c, Bx, htt, heb2, hvx, rfl, rfl⟩ ⟨rfl, rfl, rfl, trivial⟩ (fun w m => m)
theorem header_Decode_does (w0 : World) (Φ : Ctx) (N : List Ent) (hΦ : ∀ w, Mem w0 w N → Φ w) (A0_ : Option Addr) (c0_ : Nat) (a0 : List (BitVec 8)) (res0 : Hdr) (res1 : Nat) (va0 : View Φ A0_ a0.length c0_ 1 (u8s a0)) (hg0 : View Φ (some ⟨0, 0, none⟩) 21 21 1 (i64s fieldsL)) (hf : header_Decode a0 = some (res0, res1)) : DoesG Tryd.prog 10 [.slice A0_ a0.length c0_] w0 [] N (fun v G => ∃ B : List Ent, ∃ cr0 : List Value, (HdrRd (More w0 Φ B) cr0 res0) ∧ (res1 ≤ 9223372036854775807) ∧ v = .tuple #[.agg cr0.toArray, .int .i64 ((res1 : Nat) : Int)] ∧ G = B) := by
 unfold header_Decode at hf
 replace va0 := va0.mono (Ψ := More w0 Φ []) (fun w q => q.1)
 replace hg0 := hg0.mono (Ψ := More w0 Φ []) (fun w q => q.1)
 have m1 := va0.mx
 refine DoesG.enter Tryd.func10 rfl Tryd.ntmps10 rfl (M := (([] ++ N))) rfl (Z4 (Z2 (OW.alloc (l := (⟨(Vector.replicate 32 0#8), (Vector.replicate 32 0#8), (Vector.replicate 20 0#8), (Vector.replicate 32 0#8), (Vector.replicate 32 0#8), (Vector.replicate 32 0#8), (Vector.replicate 256 0#8), (Vector.replicate 4 0#64), 0#64, 0#64, 0#64, 0#64, .slice none 0 0, (Vector.replicate 32 0#8), (Vector.replicate 8 0#8), (0 : Int), (Vector.replicate 4 0#64), (Vector.replicate 32 0#8), 0#64, 0#64, (Vector.replicate 32 0#8), (Vector.replicate 32 0#8)⟩ : HdrC).C) rfl (by kernel_rfl) rfl (fun b2 => (Z0 (Z5 rfl) rfl (Z6 (Z1 (Z4 (Z2 (Z0 (Z3 rfl) rfl ?_))))))))))
 obtain ⟨⟨x4, x5⟩, hx3, hf⟩ := Z103 hf
 try dsimp only at hf
 refine Z12 Tryd.call39 rfl (rlp_Decode_does w0 (More w0 Φ []) ((some b2, blk (⟨(Vector.replicate 32 0#8), (Vector.replicate 32 0#8), (Vector.replicate 20 0#8), (Vector.replicate 32 0#8), (Vector.replicate 32 0#8), (Vector.replicate 32 0#8), (Vector.replicate 256 0#8), (Vector.replicate 4 0#64), 0#64, 0#64, 0#64, 0#64, .slice none 0 0, (Vector.replicate 32 0#8), (Vector.replicate 8 0#8), (0 : Int), (Vector.replicate 4 0#64), (Vector.replicate 32 0#8), 0#64, 0#64, (Vector.replicate 32 0#8), (Vector.replicate 32 0#8)⟩ : HdrC).C 38) :: ([] ++ N)) (fun w m => More.of hΦ 1 m rfl) A0_ c0_ a0 x4 x5 va0 hx3) rfl rfl ?_
 rintro L10 M11 ⟨B6, cs7, h8, b9, e12, e13⟩
 rw [e12, e13]
 clear e12 e13 L10 M11
 refine Z20 (M' := ((some b2, blk (⟨(Vector.replicate 32 0#8), (Vector.replicate 32 0#8), (Vector.replicate 20 0#8), (Vector.replicate 32 0#8), (Vector.replicate 32 0#8), (Vector.replicate 32 0#8), (Vector.replicate 256 0#8), (Vector.replicate 4 0#64), 0#64, 0#64, 0#64, 0#64, .slice none 0 0, (Vector.replicate 32 0#8), (Vector.replicate 8 0#8), (0 : Int), (Vector.replicate 4 0#64), (Vector.replicate 32 0#8), 0#64, 0#64, (Vector.replicate 32 0#8), (Vector.replicate 32 0#8)⟩ : HdrC).C 38) :: ((B6 ++ []) ++ N))) (fun w m => by have h := Z119 (A := B6) m 0 1 rfl rfl; exact h) ?_
 have gq1 : ∀ w, More w0 Φ (B6 ++ []) w → More w0 Φ [] w := fun w q => More.mono (fun w m => (m).appR) q
 replace va0 := va0.mono gq1
 replace hg0 := hg0.mono gq1
 replace h8 := ItRd.mono (Ψ := (More w0 Φ (B6 ++ []))) (fun w q => More.flat q) _ _ h8
 have h23 := h8
 obtain ⟨A14, c15, A17, c18, cs20, e22, v16, v19, h21⟩ := ItRd.opn h8
 subst e22
 have m24 := v16.mx
 have m25 := v19.mx
 have m26 := v16.mx
 have m27 := v19.mx
 refine Z0 (Z3 rfl) rfl (Z0 (Z17 rfl rfl) rfl (Z7 (.agg [.bool (x4.list), .slice A14 x4.data.length c15, .slice A17 x4.items.length c18].toArray) (rfl) (Z0 (Z17 rfl rfl) rfl (Z7 (.int .i64 ((x5 : Nat) : Int)) (rfl) (OW.alloc (l := [.bool false, .slice none 0 0, .slice none 0 0]) rfl rfl rfl (fun b28 => ?_))))))
 refine Z28 (Z105 rfl rfl rfl (by intro u hu; simp at hu; rcases hu with rfl | rfl | rfl <;> rfl) rfl rfl rfl) ?_
 refine Z0 (Z5 rfl) rfl (Z6 (Z1 (Z4 (Z4 (Z2 (Z0 (Z3 rfl) rfl (Z0 (RV.neq rfl rfl) rfl (Z7 (.bool (!decide (x5 = 0))) (congrArg (fun b => Value.bool (!b)) (decide_eq_decide.2 (by omega))) (Z6 (Z1 ?_))))))))))
 by_cases h29 : x5 = 0
 ·replace hf := if_t hf h29
  refine Z14 rfl (congrArg (fun b => !b) (decide_eq_true h29)) (CW.skip (Z1 (Z4 (Z2 (Z0 (Z22 rfl Zh rfl rfl rfl rfl rfl) rfl ?_)))))
  obtain ⟨⟨x31, x32⟩, hx30, hf⟩ := Z103 hf
  try dsimp only at hf
  refine Z12 Tryd.call16 rfl (header_Parse_does w0 (More w0 Φ (B6 ++ [])) ((some b28, blk [.bool (x4.list), .slice A14 x4.data.length c15, .slice A17 x4.items.length c18] 25) :: (some b2, blk (⟨(Vector.replicate 32 0#8), (Vector.replicate 32 0#8), (Vector.replicate 20 0#8), (Vector.replicate 32 0#8), (Vector.replicate 32 0#8), (Vector.replicate 32 0#8), (Vector.replicate 256 0#8), (Vector.replicate 4 0#64), 0#64, 0#64, 0#64, 0#64, .slice none 0 0, (Vector.replicate 32 0#8), (Vector.replicate 8 0#8), (0 : Int), (Vector.replicate 4 0#64), (Vector.replicate 32 0#8), 0#64, 0#64, (Vector.replicate 32 0#8), (Vector.replicate 32 0#8)⟩ : HdrC).C 38) :: ((B6 ++ []) ++ N)) (fun w m => More.of hΦ 2 m rfl) [.bool (x4.list), .slice A14 x4.data.length c15, .slice A17 x4.items.length c18] x4 x31 x32 h23 hg0 hx30) rfl rfl ?_
  rintro L37 M38 ⟨B33, cs34, h35, b36, e39, e40⟩
  rw [e39, e40]
  clear e39 e40 L37 M38
  refine Z20 (M' := ((some b28, blk [.bool (x4.list), .slice A14 x4.data.length c15, .slice A17 x4.items.length c18] 25) :: (some b2, blk (⟨(Vector.replicate 32 0#8), (Vector.replicate 32 0#8), (Vector.replicate 20 0#8), (Vector.replicate 32 0#8), (Vector.replicate 32 0#8), (Vector.replicate 32 0#8), (Vector.replicate 256 0#8), (Vector.replicate 4 0#64), 0#64, 0#64, 0#64, 0#64, .slice none 0 0, (Vector.replicate 32 0#8), (Vector.replicate 8 0#8), (0 : Int), (Vector.replicate 4 0#64), (Vector.replicate 32 0#8), 0#64, 0#64, (Vector.replicate 32 0#8), (Vector.replicate 32 0#8)⟩ : HdrC).C 38) :: ((B33 ++ (B6 ++ [])) ++ N))) (fun w m => by have h := Z119 (A := B33) m 0 2 rfl rfl; exact h) ?_
  have gq2 : ∀ w, More w0 Φ (B33 ++ (B6 ++ [])) w → More w0 Φ (B6 ++ []) w := fun w q => More.mono (fun w m => (m).appR) q
  replace va0 := va0.mono gq2
  replace h23 := ItRd.mono gq2 _ _ h23
  replace v16 := v16.mono gq2
  replace v19 := v19.mono gq2
  replace h21 := h21.mono (ItRd.mono gq2)
  replace hg0 := hg0.mono gq2
  replace h35 := HdrRd.mono (Ψ := (More w0 Φ (B33 ++ (B6 ++ [])))) (fun w q => More.flat q) _ _ h35
  have h46 := h35
  obtain ⟨A41, c42, e45, v43, b44⟩ := HdrRd.opn h35
  subst e45
  have m47 := v43.mx
  have m48 := v43.mx
  refine Z0 (Z17 rfl rfl) rfl (Z7 (.agg (⟨x31.parent, x31.uncles, x31.coinbase, x31.state, x31.txRoot, x31.receiptRoot, x31.bloom, x31.difficulty, x31.number, x31.limit, x31.used, x31.time, .slice A41 x31.extra.length c42, x31.mix, x31.nonce, x31.tail, x31.baseFee, x31.withdrawals, x31.blobUsed, x31.blobExcess, x31.beacon, x31.requests⟩ : HdrC).C.toArray) (rfl) (Z0 (Z17 rfl rfl) rfl (Z7 (.int .i64 ((x32 : Nat) : Int)) (rfl) (OW.rot1 (Z28 (Z105 rfl rfl rfl (HdrC.C_one _ rfl) rfl (HdrC.C_length _) (HdrC.C_length _)) (Z0 (Z5 rfl) rfl (Z6 (Z1 (CW.ret ?_)))))))))
  have er0 := Zi hf
  obtain ⟨e0, er1⟩ := Prod.mk.inj er0
  clear er0
  subst e0
  subst er1
  refine Z106 (rs := [.cell 2 38, .tmp 3]) ([.agg (⟨x31.parent, x31.uncles, x31.coinbase, x31.state, x31.txRoot, x31.receiptRoot, x31.bloom, x31.difficulty, x31.number, x31.limit, x31.used, x31.time, .slice A41 x31.extra.length c42, x31.mix, x31.nonce, x31.tail, x31.baseFee, x31.withdrawals, x31.blobUsed, x31.blobExcess, x31.beacon, x31.requests⟩ : HdrC).C.toArray, .int .i64 ((x32 : Nat) : Int)]) ((B33 ++ (B6 ++ []))) rfl ?_ rfl ?_ ?_ _ (.inl rfl)
  ·exact ⟨⟨_, _, _, _, rfl, Zh, rfl, rfl, (congrArg some (HdrC.C_length _).symm), rfl⟩, rfl, trivial⟩
  ·exact ⟨(B33 ++ (B6 ++ [])), (⟨x31.parent, x31.uncles, x31.coinbase, x31.state, x31.txRoot, x31.receiptRoot, x31.bloom, x31.difficulty, x31.number, x31.limit, x31.used, x31.time, .slice A41 x31.extra.length c42, x31.mix, x31.nonce, x31.tail, x31.baseFee, x31.withdrawals, x31.blobUsed, x31.blobExcess, x31.beacon, x31.requests⟩ : HdrC).C, h46, (by omega), rfl, rfl⟩
  ·exact (fun w m => m.pick [] 2 rfl rfl)
 ·replace hf := if_f hf h29
  refine Z13 rfl (congrArg (fun b => !b) (decide_eq_false h29)) (Z4 (Z2 (Z0 (Z109 (l := (⟨(Vector.replicate 32 0#8), (Vector.replicate 32 0#8), (Vector.replicate 20 0#8), (Vector.replicate 32 0#8), (Vector.replicate 32 0#8), (Vector.replicate 32 0#8), (Vector.replicate 256 0#8), (Vector.replicate 4 0#64), 0#64, 0#64, 0#64, 0#64, .slice none 0 0, (Vector.replicate 32 0#8), (Vector.replicate 8 0#8), (0 : Int), (Vector.replicate 4 0#64), (Vector.replicate 32 0#8), 0#64, 0#64, (Vector.replicate 32 0#8), (Vector.replicate 32 0#8)⟩ : HdrC).C) (cs := (⟨(Vector.replicate 32 0#8), (Vector.replicate 32 0#8), (Vector.replicate 20 0#8), (Vector.replicate 32 0#8), (Vector.replicate 32 0#8), (Vector.replicate 32 0#8), (Vector.replicate 256 0#8), (Vector.replicate 4 0#64), 0#64, 0#64, 0#64, 0#64, .slice none 0 0, (Vector.replicate 32 0#8), (Vector.replicate 8 0#8), (0 : Int), (Vector.replicate 4 0#64), (Vector.replicate 32 0#8), 0#64, 0#64, (Vector.replicate 32 0#8), (Vector.replicate 32 0#8)⟩ : HdrC).C) [] rfl rfl rfl (by kernel_rfl) rfl rfl rfl) rfl (Z0 (Z3 rfl) rfl (OW.rot1 (Z28 (Z105 rfl rfl rfl (HdrC.C_one _ rfl) rfl (HdrC.C_length _) (HdrC.C_length _)) (Z0 (Z5 rfl) rfl (Z6 (Z1 (CW.ret (Z8 ?_)))))))))))
  have er0 := Zi hf
  obtain ⟨e0, er1⟩ := Prod.mk.inj er0
  clear er0
  subst e0
  subst er1
  have v49 : View (More w0 Φ (B6 ++ [])) none ([] : List (BitVec 8)).length 0 1 (u8s []) := View.nil
  have h50 : HdrRd (More w0 Φ (B6 ++ [])) (⟨(Vector.replicate 32 0#8), (Vector.replicate 32 0#8), (Vector.replicate 20 0#8), (Vector.replicate 32 0#8), (Vector.replicate 32 0#8), (Vector.replicate 32 0#8), (Vector.replicate 256 0#8), (Vector.replicate 4 0#64), 0#64, 0#64, 0#64, 0#64, .slice none 0 0, (Vector.replicate 32 0#8), (Vector.replicate 8 0#8), (0 : Int), (Vector.replicate 4 0#64), (Vector.replicate 32 0#8), 0#64, 0#64, (Vector.replicate 32 0#8), (Vector.replicate 32 0#8)⟩ : HdrC).C (Hdr.mk (Vector.replicate 32 0#8) (Vector.replicate 32 0#8) (Vector.replicate 20 0#8) (Vector.replicate 32 0#8) (Vector.replicate 32 0#8) (Vector.replicate 32 0#8) (Vector.replicate 256 0#8) (Vector.replicate 4 0#64) (0#64) (0#64) (0#64) (0#64) ([] : List (BitVec 8)) (Vector.replicate 32 0#8) (Vector.replicate 8 0#8) (0 : Int) (Vector.replicate 4 0#64) (Vector.replicate 32 0#8) (0#64) (0#64) (Vector.replicate 32 0#8) (Vector.replicate 32 0#8)) := HdrRd.zero
  refine Z106 (rs := [.cell 2 38, .tmp 3]) ([.agg (⟨(Vector.replicate 32 0#8), (Vector.replicate 32 0#8), (Vector.replicate 20 0#8), (Vector.replicate 32 0#8), (Vector.replicate 32 0#8), (Vector.replicate 32 0#8), (Vector.replicate 256 0#8), (Vector.replicate 4 0#64), 0#64, 0#64, 0#64, 0#64, .slice none 0 0, (Vector.replicate 32 0#8), (Vector.replicate 8 0#8), (0 : Int), (Vector.replicate 4 0#64), (Vector.replicate 32 0#8), 0#64, 0#64, (Vector.replicate 32 0#8), (Vector.replicate 32 0#8)⟩ : HdrC).C.toArray, .int .i64 ((x5 : Nat) : Int)]) ((B6 ++ [])) rfl ?_ rfl ?_ ?_ _ (.inl rfl)
  ·exact ⟨⟨_, _, _, _, rfl, Zh, rfl, rfl, (congrArg some (HdrC.C_length _).symm), rfl⟩, rfl, trivial⟩
  ·exact ⟨(B6 ++ []), (⟨(Vector.replicate 32 0#8), (Vector.replicate 32 0#8), (Vector.replicate 20 0#8), (Vector.replicate 32 0#8), (Vector.replicate 32 0#8), (Vector.replicate 32 0#8), (Vector.replicate 256 0#8), (Vector.replicate 4 0#64), 0#64, 0#64, 0#64, 0#64, .slice none 0 0, (Vector.replicate 32 0#8), (Vector.replicate 8 0#8), (0 : Int), (Vector.replicate 4 0#64), (Vector.replicate 32 0#8), 0#64, 0#64, (Vector.replicate 32 0#8), (Vector.replicate 32 0#8)⟩ : HdrC).C, h50, (by omega), rfl, rfl⟩
  ·exact (fun w m => m.pick [] 2 rfl rfl)
def rdC (A : Option Addr) (n c i e : Nat) : List Value := [.slice A n c, .int .i64 (i : Int), .int .i64 (e : Int)]
theorem rdC_set1 (A : Option Addr) (n c i e j : Nat) : (rdC A n c i e).set 1 (.int .i64 (j : Int)) = rdC A n c j e := rfl
theorem rdC_set2 (A : Option Addr) (n c i e j : Nat) : (rdC A n c i e).set 2 (.int .i64 (j : Int)) = rdC A n c i j := rfl
theorem rd19_next (w0 : World) (Φ : Ctx) (N : List Ent) (hΦ : ∀ w, Mem w0 w N → Φ w) (b : Nat) (A : Option Addr) (c : Nat) (cs : List Value) (its : List It) (i e : Nat) (x : It) (va : View Φ A its.length c 3 cs) (ha : Reps (ItRd Φ) cs its) (hx : its[i]? = some x) :
  DoesG Tryd.prog 87 [ptr (some b) 0] w0 [(some b, blk (rdC A its.length c i e) 106)] N (fun v G => ∃ cr B, ItRd Φ cr x ∧ v = .agg cr.toArray ∧ G = (some b, blk (rdC A its.length c (i + 1) e) 106) :: B) := by
 have hm := va.mx
 have hi := (List.getElem?_eq_some_iff.1 hx).1
 obtain ⟨cr, hcr, hcc⟩ := ha.get ItRd.len hx
 have hcl := ItRd.len _ _ hcr
 refine DoesG.enter Tryd.func87 rfl Tryd.ntmps87 rfl (M := (some b, blk (rdC A its.length c i e) 106) :: N) rfl (Z4 (Z2 (OW.alloc rfl rfl rfl (fun b2 => (Z6 ?_)))))
 (refine Z1 ?_; refine Z4 ?_)
 refine Z124 11 mixed (by kernel_rfl) rfl (Z18 0 rfl (by kernel_rfl) rfl (Z3 rfl) rfl (Z18 1 rfl (by kernel_rfl) rfl (RV.nilCheck rfl) rfl (Z18 2 rfl (by kernel_rfl) rfl (Z30 rfl rfl rfl rfl) rfl (Z18 3 rfl (by kernel_rfl) rfl (Z29 rfl (List.Mem.tail _ Zh) rfl rfl rfl rfl) rfl (Z18 4 rfl (by kernel_rfl) rfl (Z3 rfl) rfl (Z18 5 rfl (by kernel_rfl) rfl (RV.nilCheck rfl) rfl (Z18 6 rfl (by kernel_rfl) rfl (Z30 rfl rfl rfl rfl) rfl ?_)))))))
 refine Z18 7 rfl (by kernel_rfl) rfl (Z29 rfl (List.Mem.tail _ Zh) rfl rfl rfl rfl) rfl (Z18 8 rfl (by kernel_rfl) rfl (RV.idx_rs i rfl rfl rfl rfl rfl (va.isSome (by decide) hi) (by omega)) rfl (Z18 9 rfl (by kernel_rfl) rfl (RV.loadAs rfl rfl rfl rfl (fun w m => va.load (hΦ w (m.drop 2)) hcc) hcl) rfl (UW.new 10 rfl (by kernel_rfl) rfl (NV.alloc (l := [.bool false, nsl, nsl]) rfl rfl) rfl (fun b3 => (UW.nil (by kernel_rfl) (Z28 (Z105 rfl rfl rfl (ItRd.one _ _ hcr) rfl rfl hcl) (Z6 ?_)))))))
 (refine Z1 ?_; refine Z4 ?_)
 refine Z2 (Z0 (Z3 rfl) rfl (Z0 (RV.nilCheck rfl) rfl (Z0 (Z30 rfl rfl rfl rfl) rfl (Z0 (Z29 rfl (List.Mem.tail _ (List.Mem.tail _ Zh)) rfl rfl rfl rfl) rfl (Z0 (RV.add rfl rfl (by omega)) rfl (Z0 (RV.nilCheck rfl) rfl (Z0 (Z30 rfl rfl rfl rfl) rfl ?_)))))))
 refine OW.rot2 ?_; refine Z28 (SV.store rfl rfl rfl rfl rfl (by show 1 < 3; decide)) ?_; refine OW.cells (rdC A its.length c (i + 1) e) (rdC_set1 A its.length c i e (i + 1)) ?_
 refine Z6 ?_
 (refine Z1 ?_; refine Z4 ?_)
 refine Z2 ?_
 refine Z0 (Z22 rfl (List.Mem.tail _ Zh) rfl rfl rfl rfl hcl) rfl ?_; refine OW.rot2 ?_
 refine Z28 (Z105 rfl rfl rfl (ItRd.one _ _ hcr) rfl rfl hcl) (Z6 ?_)
 (refine Z1 ?_; refine CW.ret ?_)
 refine Z106 (rs := [.cell 2 25]) [.agg cr.toArray] ((some b, blk (rdC A its.length c (i + 1) e) 106) :: [(some b2, blk cr 25)]) rfl ⟨⟨_, _, _, _, rfl, Zh, rfl, rfl, (by rw [hcl]; rfl), rfl⟩, trivial⟩ rfl ⟨_, _, hcr, rfl, rfl⟩ (fun w m => m.pick [1, 0] 3 rfl rfl) _ (.inl rfl)
theorem rd19_fixed (w0 : World) (Φ : Ctx) (N : List Ent) (hΦ : ∀ w, Mem w0 w N → Φ w) (b : Nat) (A : Option Addr) (c : Nat) (cs : List Value) (its : List It) (i e n : Nat) (x : It) (bb : List (BitVec 8)) (k : Nat) (va : View Φ A its.length c 3 cs) (ha : Reps (ItRd Φ) cs its) (hx : its[i]? = some x) (hn : n ≤ 256) (hg : waybillref07_GetFixed x (n : Int) = some (bb, k)) :
  DoesG Tryd.prog 49 [ptr (some b) 0, .int .i64 (n : Int)] w0 [(some b, blk (rdC A its.length c i e) 106)] N (fun v G => ∃ (ob : Option Nat) (c2 : Nat) (r2 : List Value) (B : List Ent), k ≤ 9223372036854775807 ∧ OwnS ob n c2 1 (u8s (if bb.length = n then bb else List.replicate n 0#8)) r2 ∧ v = sl ob 0 n c2 ∧ G = (some b, blk (rdC A its.length c (i + 1) (if e = 0 then k else e)) 106) :: (ob, blk (u8s (if bb.length = n then bb else List.replicate n 0#8) ++ r2) 5) :: B) := by
 refine DoesG.enter Tryd.func49 rfl Tryd.ntmps49 rfl (M := (some b, blk (rdC A its.length c i e) 106) :: N) rfl (Z4 (Z2 (Z0 (Z5 rfl) rfl (Z6 ?_))))
 (refine Z1 ?_; refine Z4 ?_)
 refine Z2 (Z0 (Z3 rfl) rfl ?_)
 refine Z12 Tryd.call87 rfl (rd19_next w0 Φ N hΦ b A c cs its i e x va ha hx) rfl rfl ?_; rintro _ _ ⟨cr, B1, hcr, rfl, rfl⟩
 refine Z0 (Z3 rfl) rfl ?_
 refine Z12 Tryd.call86 rfl (waybillref07_GetFixed_does w0 Φ ((some b, blk (rdC A its.length c (i + 1) e) 106) :: (B1 ++ N)) (fun w m => hΦ w m.tail.appR) cr x n bb k hcr (by omega) hg) rfl rfl ?_; rintro _ _ ⟨B2, ob, c2, r2, o2, hk, rfl, rfl⟩; refine Z20 (M' := (some b, blk (rdC A its.length c (i + 1) e) 106) :: (ob, blk (u8s bb ++ r2) 5) :: ((B2 ++ B1) ++ N)) (fun w m => m.chunk [[(ob, blk (u8s bb ++ r2) 5)], B2, [(some b, blk (rdC A its.length c (i + 1) e) 106)], B1, N] [2, 0, 1, 3, 4] rfl (by simp) (by simp)) ?_
 refine Z0 (Z3 rfl) rfl (Z0 (Z17 rfl rfl) rfl (Z0 (Z17 rfl rfl) rfl (Z0 (Z5 rfl) rfl (Z0 (Z5 rfl) rfl (Z6 ?_)))))
 have hm2 := o2.mx
 refine Z1 (Z4 ?_)
 refine Z120 (fun L' M' => L' = [(0, ptr (some b) 0), (1, .int .i64 (n : Int)), (5, sl ob 0 bb.length c2)] ∧ M' = (some b, blk (rdC A its.length c (i + 1) (if e = 0 then k else e)) 106) :: (ob, blk (u8s bb ++ r2) 5) :: ((B2 ++ B1) ++ N)) ?_ ?_
 ·rintro L' M' ⟨rfl, rfl⟩
  by_cases hl : bb.length = n
  ·simp only [if_pos hl]
   (refine Z1 ?_; refine Z4 ?_; refine Z4 ?_)
   refine Z2 (Z0 (Z3 rfl) rfl (Z0 (RV.len rfl rfl) rfl (Z0 (Z3 rfl) rfl (Z0 (RV.neq_f rfl rfl (by omega)) rfl (Z6 (Z1 (Z135 rfl ?_)))))))
   (refine CW.skip ?_; refine Z1 ?_; refine Z4 ?_)
   refine Z2 (Z0 (Z3 rfl) rfl (Z0 (Z5 rfl) rfl (Z6 ?_)))
   (refine Z1 ?_; refine CW.ret ?_)
   refine Z106 (rs := [.tmp 4]) [sl ob 0 bb.length c2] ((some b, blk (rdC A its.length c (i + 1) (if e = 0 then k else e)) 106) :: (ob, blk (u8s bb ++ r2) 5) :: (B2 ++ B1)) rfl ⟨rfl, trivial⟩ rfl ⟨ob, c2, r2, _, hk, hl ▸ o2, by rw [hl]; rfl, rfl⟩ (fun w m => m) _ (.inl rfl)
  ·simp only [if_neg hl]
   (refine Z1 ?_; refine Z4 ?_; refine Z4 ?_)
   refine Z2 (Z0 (Z3 rfl) rfl (Z0 (RV.len rfl rfl) rfl (Z0 (Z3 rfl) rfl (Z0 (RV.neq_t rfl rfl (by omega)) rfl (Z6 (Z1 (CW.cond_t rfl (Z4 (Z2 ?_)))))))))
   refine Z0 (Z3 rfl) rfl (OW.make (n) (n) rfl rfl rfl rfl rfl rfl rfl rfl (by omega) (by simp only [i5]; omega) (by omega) rfl (fun b28 => (Z0 (Z5 rfl) rfl (Z6 ?_))))
   (refine Z1 ?_; refine CW.ret ?_; refine Z8 ?_)
   have e1 : List.replicate n (Value.int .u8 0) = u8s (List.replicate n 0#8) ++ [] := by rw [List.append_nil]; simp [u8s, U8]
   refine Z106 (rs := [.tmp 4]) [sl (some b28) 0 n n] ((some b, blk (rdC A its.length c (i + 1) (if e = 0 then k else e)) 106) :: (some b28, blk (u8s (List.replicate n 0#8) ++ []) 5) :: ((ob, blk (u8s bb ++ r2) 5) :: (B2 ++ B1))) rfl ⟨rfl, trivial⟩ rfl ⟨some b28, n, [], _, hk, ⟨by rw [Z100, List.length_replicate]; omega, by rw [List.append_nil, Z100, List.length_replicate]; omega, (fun h => nomatch h), by omega⟩, rfl, rfl⟩ (fun w m => by rw [← e1]; exact m.pick [1, 0] 2 rfl rfl) _ (.inl rfl)
 ·refine Z4 (Z2 (Z0 (Z3 rfl) rfl (Z0 (RV.nilCheck rfl) rfl (Z0 (Z30 rfl rfl rfl rfl) rfl (Z0 (Z29 rfl Zh rfl rfl rfl rfl) rfl (Z0 (RV.eql rfl rfl) rfl (Z6 (Z1 ?_))))))))
  by_cases he : e = 0
  ·refine Z13 rfl (decide_eq_true (by omega)) (Z2 (Z0 (Z3 rfl) rfl (Z0 (Z3 rfl) rfl (Z0 (RV.nilCheck rfl) rfl (Z0 (Z30 rfl rfl rfl rfl) rfl ?_)))))
   refine Z28 (SV.store rfl rfl rfl rfl rfl (by show 2 < 3; decide)) ?_
   refine OW.cells (rdC A its.length c (i + 1) k) (rdC_set2 A its.length c (i + 1) e k) (Z6 ?_)
   exact QW.join ⟨rfl, by rw [if_pos he]⟩ ⟨rfl, rfl, rfl, trivial⟩ (fun w m => m)
  ·refine Z14 rfl (decide_eq_false (by omega)) (CW.skip ?_)
   exact QW.join ⟨rfl, by rw [if_neg he]⟩ ⟨rfl, rfl, rfl, trivial⟩ (fun w m => m)
theorem rd19_number (w0 : World) (Φ : Ctx) (N : List Ent) (hΦ : ∀ w, Mem w0 w N → Φ w) (b : Nat) (A : Option Addr) (c : Nat) (cs : List Value) (its : List It) (i e : Nat) (x : It) (y : Vector (BitVec 64) 4) (k : Nat) (va : View Φ A its.length c 3 cs) (ha : Reps (ItRd Φ) cs its) (hx : its[i]? = some x) (hg : waybillref07_GetNumber x = some (y, k)) :
  DoesG Tryd.prog 50 [ptr (some b) 0] w0 [(some b, blk (rdC A its.length c i e) 106)] N (fun v G => ∃ (B : List Ent), k ≤ 9223372036854775807 ∧ v = .agg (u64s y.toList).toArray ∧ G = (some b, blk (rdC A its.length c (i + 1) (if e = 0 then k else e)) 106) :: B) := by
 have hyl : (u64s y.toList).length = 4 := (Z101 _).trans Zv
 refine DoesG.enter Tryd.func50 rfl Tryd.ntmps50 rfl (M := (some b, blk (rdC A its.length c i e) 106) :: N) rfl (Z4 (Z2 (OW.alloc (l := u64s (List.replicate 4 0#64)) rfl (by rw [← Z116]; rfl) rfl (fun b2 => (Z6 ?_)))))
 (refine Z1 ?_; refine Z4 ?_)
 refine CW.mem (M' := (some b, blk (rdC A its.length c i e) 106) :: (some b2, blk (u64s (List.replicate 4 0#64)) 35) :: N) (fun w m => m.rot1) (Z2 (Z0 (Z3 rfl) rfl ?_))
 refine Z12 Tryd.call87 rfl (rd19_next w0 Φ ((some b2, blk (u64s (List.replicate 4 0#64)) 35) :: N) (fun w m => hΦ w m.tail) b A c cs its i e x va ha hx) rfl rfl ?_; rintro _ _ ⟨cr, B1, hcr, rfl, rfl⟩
 refine Z12 Tryd.call88 rfl (waybillref07_GetNumber_does w0 Φ ((some b, blk (rdC A its.length c (i + 1) e) 106) :: (B1 ++ ((some b2, blk (u64s (List.replicate 4 0#64)) 35) :: N))) (fun w m => hΦ w m.tail.appR.tail) cr x y k hcr hg) rfl rfl ?_; rintro _ B2 ⟨hk, rfl⟩; refine Z20 (M' := (some b, blk (rdC A its.length c (i + 1) e) 106) :: (some b2, blk (u64s (List.replicate 4 0#64)) 35) :: (B1 ++ N)) (fun w m => m.chunk [B2, [(some b, blk (rdC A its.length c (i + 1) e) 106)], B1, [(some b2, blk (u64s (List.replicate 4 0#64)) 35)], N] [1, 3, 2, 4] rfl (by simp) (by simp)) ?_
 refine Z0 (Z3 rfl) rfl (Z0 (Z17 rfl rfl) rfl (Z0 (Z17 rfl rfl) rfl (OW.alloc (l := u64s (List.replicate 4 0#64)) rfl (by rw [← Z116]; rfl) rfl (fun b3 => (Z28 (Z105 rfl rfl rfl (Z115 _) rfl ((Z101 _).trans (List.length_replicate ..)) (by assumption)) (Z0 (Z5 rfl) rfl (Z6 (Z1 (Z4 ?_)))))))))
 refine Z120 (fun L' M' => L' = [(2, ptr (some b2) 0), (3, ptr (some b3) 0)] ∧ M' = (some b, blk (rdC A its.length c (i + 1) (if e = 0 then k else e)) 106) :: (some b3, blk (u64s y.toList) 35) :: (some b2, blk (u64s (List.replicate 4 0#64)) 35) :: (B1 ++ N)) ?_ ?_
 ·rintro L' M' ⟨rfl, rfl⟩
  (refine Z1 ?_; refine Z4 ?_)
  refine Z2 ?_
  refine Z0 (Z22 rfl (List.Mem.tail _ Zh) rfl rfl rfl rfl hyl) rfl ?_; refine OW.rot2 ?_
  refine Z28 (Z105 rfl rfl rfl (Z115 _) rfl (by rw [Z101, List.length_replicate]; rfl) hyl) (Z6 ?_)
  (refine Z1 ?_; refine CW.ret ?_)
  refine Z106 (rs := [.cell 2 35]) [.agg (u64s y.toList).toArray] ((some b, blk (rdC A its.length c (i + 1) (if e = 0 then k else e)) 106) :: (some b2, blk (u64s y.toList) 35) :: B1) rfl ⟨⟨_, _, _, _, rfl, Zh, rfl, rfl, (by rw [hyl]; rfl), rfl⟩, trivial⟩ rfl ⟨_, hk, rfl, rfl⟩ (fun w m => m.pick [1, 0] 3 rfl rfl) _ (.inl rfl)
 ·refine CW.mem (M' := (some b, blk (rdC A its.length c (i + 1) e) 106) :: (some b3, blk (u64s y.toList) 35) :: (some b2, blk (u64s (List.replicate 4 0#64)) 35) :: (B1 ++ N)) (fun w m => m.rot1) (Z4 (Z2 (Z0 (Z3 rfl) rfl (Z0 (RV.nilCheck rfl) rfl (Z0 (Z30 rfl rfl rfl rfl) rfl (Z0 (Z29 rfl Zh rfl rfl rfl rfl) rfl (Z0 (RV.eql rfl rfl) rfl (Z6 (Z1 ?_)))))))))
  by_cases he : e = 0
  ·refine Z13 rfl (decide_eq_true (by omega)) (Z2 (Z0 (Z3 rfl) rfl (Z0 (Z3 rfl) rfl (Z0 (RV.nilCheck rfl) rfl (Z0 (Z30 rfl rfl rfl rfl) rfl ?_)))))
   refine Z28 (SV.store rfl rfl rfl rfl rfl (by show 2 < 3; decide)) ?_
   refine OW.cells (rdC A its.length c (i + 1) k) (rdC_set2 A its.length c (i + 1) e k) (Z6 ?_)
   exact QW.join ⟨rfl, by rw [if_pos he]⟩ ⟨rfl, rfl, trivial⟩ (fun w m => m)
  ·refine Z14 rfl (decide_eq_false (by omega)) (CW.skip ?_)
   exact QW.join ⟨rfl, by rw [if_neg he]⟩ ⟨rfl, rfl, trivial⟩ (fun w m => m)
theorem rd19_small (w0 : World) (Φ : Ctx) (N : List Ent) (hΦ : ∀ w, Mem w0 w N → Φ w) (b : Nat) (A : Option Addr) (c : Nat) (cs : List Value) (its : List It) (i e : Nat) (x : It) (y : BitVec 64) (k : Nat) (va : View Φ A its.length c 3 cs) (ha : Reps (ItRd Φ) cs its) (hx : its[i]? = some x) (hg : waybillref07_GetSmall x = some (y, k)) :
  DoesG Tryd.prog 51 [ptr (some b) 0] w0 [(some b, blk (rdC A its.length c i e) 106)] N (fun v G => ∃ (B : List Ent), k ≤ 9223372036854775807 ∧ v = U64 y ∧ G = (some b, blk (rdC A its.length c (i + 1) (if e = 0 then k else e)) 106) :: B) := by
 refine DoesG.enter Tryd.func51 rfl Tryd.ntmps51 rfl (M := (some b, blk (rdC A its.length c i e) 106) :: N) rfl (Z4 (Z2 (Z0 (Z5 rfl) rfl (Z6 ?_))))
 (refine Z1 ?_; refine Z4 ?_)
 refine Z2 (Z0 (Z3 rfl) rfl ?_)
 refine Z12 Tryd.call87 rfl (rd19_next w0 Φ N hΦ b A c cs its i e x va ha hx) rfl rfl ?_; rintro _ _ ⟨cr, B1, hcr, rfl, rfl⟩
 refine Z12 Tryd.call89 rfl (waybillref07_GetSmall_does w0 Φ ((some b, blk (rdC A its.length c (i + 1) e) 106) :: (B1 ++ N)) (fun w m => hΦ w m.tail.appR) cr x y k hcr hg) rfl rfl ?_; rintro _ B2 ⟨hk, rfl⟩; refine Z20 (M' := (some b, blk (rdC A its.length c (i + 1) e) 106) :: (B1 ++ N)) (fun w m => m.appR) ?_
 refine Z0 (Z3 rfl) rfl (Z0 (Z17 rfl rfl) rfl (Z0 (Z17 rfl rfl) rfl (Z0 (Z5 rfl) rfl (Z0 (Z5 rfl) rfl (Z6 (Z1 (Z4 ?_)))))))
 refine Z120 (fun L' M' => L' = [(3, U64 y)] ∧ M' = (some b, blk (rdC A its.length c (i + 1) (if e = 0 then k else e)) 106) :: (B1 ++ N)) ?_ ?_
 ·rintro L' M' ⟨rfl, rfl⟩
  (refine Z1 ?_; refine Z4 ?_)
  refine Z2 (Z0 (Z3 rfl) rfl (Z0 (Z5 rfl) rfl (Z6 ?_)))
  (refine Z1 ?_; refine CW.ret ?_)
  refine Z106 (rs := [.tmp 2]) [U64 y] ((some b, blk (rdC A its.length c (i + 1) (if e = 0 then k else e)) 106) :: B1) rfl ⟨rfl, trivial⟩ rfl ⟨_, hk, rfl, rfl⟩ (fun w m => m) _ (.inl rfl)
 ·refine Z4 (Z2 (Z0 (Z3 rfl) rfl (Z0 (RV.nilCheck rfl) rfl (Z0 (Z30 rfl rfl rfl rfl) rfl (Z0 (Z29 rfl Zh rfl rfl rfl rfl) rfl (Z0 (RV.eql rfl rfl) rfl (Z6 (Z1 ?_))))))))
  by_cases he : e = 0
  ·refine Z13 rfl (decide_eq_true (by omega)) (Z2 (Z0 (Z3 rfl) rfl (Z0 (Z3 rfl) rfl (Z0 (RV.nilCheck rfl) rfl (Z0 (Z30 rfl rfl rfl rfl) rfl ?_)))))
   refine Z28 (SV.store rfl rfl rfl rfl rfl (by show 2 < 3; decide)) ?_
   refine OW.cells (rdC A its.length c (i + 1) k) (rdC_set2 A its.length c (i + 1) e k) (Z6 ?_)
   exact QW.join ⟨rfl, by rw [if_pos he]⟩ ⟨rfl, trivial⟩ (fun w m => m)
  ·refine Z14 rfl (decide_eq_false (by omega)) (CW.skip ?_)
   exact QW.join ⟨rfl, by rw [if_neg he]⟩ ⟨rfl, trivial⟩ (fun w m => m)
theorem rd19_extra (w0 : World) (Φ : Ctx) (N : List Ent) (hΦ : ∀ w, Mem w0 w N → Φ w) (b : Nat) (A : Option Addr) (c : Nat) (cs : List Value) (its : List It) (i e : Nat) (x : It) (bb : List (BitVec 8)) (k : Nat) (va : View Φ A its.length c 3 cs) (ha : Reps (ItRd Φ) cs its) (hx : its[i]? = some x) (he0 : e ≤ 9223372036854775807) (hg : waybillref07_GetText x = some (bb, k)) :
  DoesG Tryd.prog 52 [ptr (some b) 0] w0 [(some b, blk (rdC A its.length c i e) 106)] N (fun v G => ∃ (ob : Option Nat) (c2 : Nat) (r2 : List Value) (B : List Ent), k ≤ 9223372036854775807 ∧ OwnS ob bb.length c2 1 (u8s bb) r2 ∧ v = sl ob 0 bb.length c2 ∧ G = (some b, blk (rdC A its.length c (i + 1) (if (if e = 0 then k else e) = 0 ∧ 32 < bb.length then 192 else if e = 0 then k else e)) 106) :: (ob, blk (u8s bb ++ r2) 5) :: B) := by
 refine DoesG.enter Tryd.func52 rfl Tryd.ntmps52 rfl (M := (some b, blk (rdC A its.length c i e) 106) :: N) rfl (Z4 (Z2 (Z0 (Z5 rfl) rfl (Z6 ?_))))
 (refine Z1 ?_; refine Z4 ?_)
 refine Z2 (Z0 (Z3 rfl) rfl ?_)
 refine Z12 Tryd.call87 rfl (rd19_next w0 Φ N hΦ b A c cs its i e x va ha hx) rfl rfl ?_; rintro _ _ ⟨cr, B1, hcr, rfl, rfl⟩
 refine Z12 Tryd.call90 rfl (waybillref07_GetText_does w0 Φ ((some b, blk (rdC A its.length c (i + 1) e) 106) :: (B1 ++ N)) (fun w m => hΦ w m.tail.appR) cr x bb k hcr hg) rfl rfl ?_; rintro _ _ ⟨B2, ob, c2, r2, o2, hk, rfl, rfl⟩; refine Z20 (M' := (some b, blk (rdC A its.length c (i + 1) e) 106) :: (ob, blk (u8s bb ++ r2) 5) :: ((B2 ++ B1) ++ N)) (fun w m => m.chunk [[(ob, blk (u8s bb ++ r2) 5)], B2, [(some b, blk (rdC A its.length c (i + 1) e) 106)], B1, N] [2, 0, 1, 3, 4] rfl (by simp) (by simp)) ?_
 refine Z0 (Z3 rfl) rfl (Z0 (Z17 rfl rfl) rfl (Z0 (Z17 rfl rfl) rfl (Z0 (Z5 rfl) rfl (Z0 (Z5 rfl) rfl (Z6 ?_)))))
 have hm2 := o2.mx
 refine Z1 (Z4 ?_)
 refine Z120 (fun L' M' => L' = [(0, ptr (some b) 0), (3, sl ob 0 bb.length c2)] ∧ M' = (some b, blk (rdC A its.length c (i + 1) (if e = 0 then k else e)) 106) :: (ob, blk (u8s bb ++ r2) 5) :: ((B2 ++ B1) ++ N)) ?_ ?_
 ·rintro L' M' ⟨rfl, rfl⟩
  generalize hE : (if e = 0 then k else e) = e2
  have he2 : e2 ≤ 9223372036854775807 := by rw [← hE]; split <;> omega
  by_cases h1 : e2 = 0
  ·subst h1
   by_cases h2 : 32 < bb.length
   ·rw [if_pos ⟨rfl, h2⟩]
    (refine Z1 ?_; refine Z4 ?_; refine Z4 ?_)
    refine Z2 (Z0 (Z3 rfl) rfl (Z0 (RV.nilCheck rfl) rfl (Z0 (Z30 rfl rfl rfl rfl) rfl (Z0 (Z29 rfl Zh rfl rfl rfl rfl) rfl (Z0 (RV.eql_t rfl rfl rfl) rfl (Z0 (Z3 rfl) rfl ?_))))))
    refine Z24 rfl ?_; refine Z0 (Z3 rfl) rfl ?_
    refine Z24 rfl ?_; refine Z0 (RV.len rfl rfl) rfl ?_
    refine Z24 rfl ?_; refine Z0 (RV.gtr_t rfl rfl (by omega)) rfl ?_
    refine Z0 (Z108 rfl rfl rfl) rfl (Z6 (Z1 (CW.cond_t rfl (Z2 (Z0 (Z3 rfl) rfl (Z0 (RV.nilCheck rfl) rfl (Z0 (Z30 rfl rfl rfl rfl) rfl ?_)))))))
    refine Z28 (SV.store rfl rfl rfl rfl rfl (by show 2 < 3; decide)) ?_; refine OW.cells (rdC A its.length c (i + 1) 192) (rdC_set2 A its.length c (i + 1) 0 192) ?_
    refine Z6 ?_
    (refine Z1 ?_; refine Z4 ?_)
    refine Z2 (Z0 (Z3 rfl) rfl (Z0 (Z5 rfl) rfl (Z6 ?_)))
    (refine Z1 ?_; refine CW.ret ?_)
    refine Z106 (rs := [.tmp 2]) [sl ob 0 bb.length c2] ((some b, blk (rdC A its.length c (i + 1) 192) 106) :: (ob, blk (u8s bb ++ r2) 5) :: (B2 ++ B1)) rfl ⟨rfl, trivial⟩ rfl ⟨ob, c2, r2, _, hk, o2, rfl, rfl⟩ (fun w m => m) _ (.inl rfl)
   ·rw [if_neg (fun q => h2 q.2)]
    (refine Z1 ?_; refine Z4 ?_; refine Z4 ?_)
    refine Z2 (Z0 (Z3 rfl) rfl (Z0 (RV.nilCheck rfl) rfl (Z0 (Z30 rfl rfl rfl rfl) rfl (Z0 (Z29 rfl Zh rfl rfl rfl rfl) rfl (Z0 (RV.eql_t rfl rfl rfl) rfl (Z0 (Z3 rfl) rfl ?_))))))
    refine Z24 rfl ?_; refine Z0 (Z3 rfl) rfl ?_
    refine Z24 rfl ?_; refine Z0 (RV.len rfl rfl) rfl ?_
    refine Z24 rfl ?_; refine Z0 (RV.gtr_f rfl rfl (by omega)) rfl ?_
    refine Z0 (Z108 rfl rfl rfl) rfl (Z6 (Z1 (Z135 rfl ?_)))
    (refine CW.skip ?_; refine Z1 ?_; refine Z4 ?_)
    refine Z2 (Z0 (Z3 rfl) rfl (Z0 (Z5 rfl) rfl (Z6 ?_)))
    (refine Z1 ?_; refine CW.ret ?_)
    refine Z106 (rs := [.tmp 2]) [sl ob 0 bb.length c2] ((some b, blk (rdC A its.length c (i + 1) 0) 106) :: (ob, blk (u8s bb ++ r2) 5) :: (B2 ++ B1)) rfl ⟨rfl, trivial⟩ rfl ⟨ob, c2, r2, _, hk, o2, rfl, rfl⟩ (fun w m => m) _ (.inl rfl)
  ·rw [if_neg (fun q => h1 q.1)]
   (refine Z1 ?_; refine Z4 ?_; refine Z4 ?_)
   refine Z2 (Z0 (Z3 rfl) rfl (Z0 (RV.nilCheck rfl) rfl (Z0 (Z30 rfl rfl rfl rfl) rfl (Z0 (Z29 rfl Zh rfl rfl rfl rfl) rfl (Z0 (RV.eql_f rfl rfl (by omega)) rfl (Z0 (Z3 rfl) rfl (Z23 rfl rfl rfl ?_)))))))
   refine Z23 rfl rfl rfl (Z23 rfl rfl rfl (Z0 (Z110 rfl rfl rfl) rfl (Z6 (Z1 (Z135 rfl ?_)))))
   (refine CW.skip ?_; refine Z1 ?_; refine Z4 ?_)
   refine Z2 (Z0 (Z3 rfl) rfl (Z0 (Z5 rfl) rfl (Z6 ?_)))
   (refine Z1 ?_; refine CW.ret ?_)
   refine Z106 (rs := [.tmp 2]) [sl ob 0 bb.length c2] ((some b, blk (rdC A its.length c (i + 1) e2) 106) :: (ob, blk (u8s bb ++ r2) 5) :: (B2 ++ B1)) rfl ⟨rfl, trivial⟩ rfl ⟨ob, c2, r2, _, hk, o2, rfl, rfl⟩ (fun w m => m) _ (.inl rfl)
 ·refine Z4 (Z2 (Z0 (Z3 rfl) rfl (Z0 (RV.nilCheck rfl) rfl (Z0 (Z30 rfl rfl rfl rfl) rfl (Z0 (Z29 rfl Zh rfl rfl rfl rfl) rfl (Z0 (RV.eql rfl rfl) rfl (Z6 (Z1 ?_))))))))
  by_cases he : e = 0
  ·refine Z13 rfl (decide_eq_true (by omega)) (Z2 (Z0 (Z3 rfl) rfl (Z0 (Z3 rfl) rfl (Z0 (RV.nilCheck rfl) rfl (Z0 (Z30 rfl rfl rfl rfl) rfl ?_)))))
   refine Z28 (SV.store rfl rfl rfl rfl rfl (by show 2 < 3; decide)) ?_
   refine OW.cells (rdC A its.length c (i + 1) k) (rdC_set2 A its.length c (i + 1) e k) (Z6 ?_)
   exact QW.join ⟨rfl, by rw [if_pos he]⟩ ⟨rfl, rfl, trivial⟩ (fun w m => m)
  ·refine Z14 rfl (decide_eq_false (by omega)) (CW.skip ?_)
   exact QW.join ⟨rfl, by rw [if_neg he]⟩ ⟨rfl, rfl, trivial⟩ (fun w m => m)
theorem rd19_hash (w0 : World) (Φ : Ctx) (N : List Ent) (hΦ : ∀ w, Mem w0 w N → Φ w) (b : Nat) (A : Option Addr) (c : Nat) (cs : List Value) (its : List It) (i e : Nat) (x : It) (bb : List (BitVec 8)) (k : Nat) (va : View Φ A its.length c 3 cs) (ha : Reps (ItRd Φ) cs its) (hx : its[i]? = some x) (hg : waybillref07_GetFixed x (32 : Nat) = some (bb, k)) :
  DoesG Tryd.prog 48 [ptr (some b) 0] w0 [(some b, blk (rdC A its.length c i e) 106)] N (fun v G => ∃ (B : List Ent), k ≤ 9223372036854775807 ∧ v = .agg (u8s (if bb.length = 32 then bb else List.replicate 32 0#8)).toArray ∧ G = (some b, blk (rdC A its.length c (i + 1) (if e = 0 then k else e)) 106) :: B) := by
 have hfl : ((if bb.length = 32 then bb else List.replicate 32 0#8)).length = 32 := by split <;> simp_all
 have hz32 : (u8s (List.replicate 32 0#8)).length = 32 := by rw [Z100, List.length_replicate]
 refine DoesG.enter Tryd.func48 rfl Tryd.ntmps48 rfl (M := (some b, blk (rdC A its.length c i e) 106) :: N) rfl (Z4 (Z2 (OW.alloc (l := u8s (List.replicate 32 0#8)) rfl (by rw [← u8s_rep']; rfl) rfl (fun b2 => (Z6 ?_)))))
 (refine Z1 ?_; refine Z4 ?_)
 refine Z2 (OW.alloc (l := u8s (List.replicate 32 0#8)) rfl (by rw [← u8s_rep']; rfl) rfl (fun b3 => (Z6 ?_)))
 (refine Z1 ?_; refine Z4 ?_)
 refine Z132 ((some b2, blk (u8s (List.replicate 32 0#8)) 28) :: N) [2, 3] (fun w m => m.pick [1] 3 rfl rfl) mixed (by kernel_rfl) (Z10 0 rfl (by kernel_rfl) rfl (Z126 rfl rfl rfl) rfl (XW.slot (sl (some b3) 0 32 32) rfl (Z10 1 rfl (by kernel_rfl) rfl (Z3 rfl) rfl (Z19 (M' := (some b, blk (rdC A its.length c i e) 106) :: (some b3, blk (u8s (List.replicate 32 0#8)) 28) :: (some b2, blk (u8s (List.replicate 32 0#8)) 28) :: N) (fun w m => m.pick [2, 0, 1] 3 rfl rfl) (fun w m => m.drop 2) (XW.callE 2 rfl (by kernel_rfl) rfl Tryd.call49 rfl (fun N2 h2 => rd19_fixed w0 Φ N2 (fun w m => hΦ w ((h2 w m).drop 2)) b A c cs its i e 32 x bb k va ha hx (by decide) hg) (fun w m => m.tail) rfl ?_)))))
 rintro _ _ ⟨ob, c2, r2, B, hk, o2, rfl, rfl⟩
 refine Z19 (M' := (some b3, blk (u8s (List.replicate 32 0#8)) 28) :: (ob, blk (u8s (if bb.length = 32 then bb else List.replicate 32 0#8) ++ r2) 5) :: (some b, blk (rdC A its.length c (i + 1) (if e = 0 then k else e)) 106) :: (some b2, blk (u8s (List.replicate 32 0#8)) 28) :: (B ++ N)) (fun w m => m.chunk [[(some b, blk (rdC A its.length c (i + 1) (if e = 0 then k else e)) 106)], [(ob, blk (u8s (if bb.length = 32 then bb else List.replicate 32 0#8) ++ r2) 5)], B, [(some b3, blk (u8s (List.replicate 32 0#8)) 28)], [(some b2, blk (u8s (List.replicate 32 0#8)) 28)], N] [3, 1, 0, 4, 2, 5] rfl (by simp) (by simp)) (fun w m => (m.drop 3).sublist (List.Sublist.cons_cons _ (List.sublist_append_right _ _))) (XW.copyS 3 (s := 1) rfl (by kernel_rfl) rfl rfl rfl rfl (fun h => nomatch h) (by rw [hz32]; omega) (fun w m => m.rd0 (List.Mem.tail _ Zh) (fun h => o2.nilc (by decide) h)) (by rw [Z100, hfl]) (Z123 _) (o2.zeroO (by decide)) (fun w m => (m.drop 2).sublist (List.Sublist.cons_cons _ (List.sublist_append_right _ _))) rfl ?_)
 refine XW.cells (u8s (if bb.length = 32 then bb else List.replicate 32 0#8)) (by rw [List.take_of_length_le (by rw [Z100, hfl]; decide)]; exact last_spl (by rw [Z100, hfl, hz32])) ?_
 refine XW.nil (by kernel_rfl) ?_
 have hul : (u8s (if bb.length = 32 then bb else List.replicate 32 0#8)).length = 32 := by rw [Z100, hfl]
 (refine Z1 ?_; refine Z4 ?_)
 refine Z2 (Z0 (Z22 rfl Zh rfl rfl rfl rfl hul) rfl ?_)
 refine OW.rot3 ?_; refine Z28 (Z105 rfl rfl rfl (Z123 _) rfl hz32 hul) ?_
 refine Z6 ?_
 (refine Z1 ?_; refine CW.ret ?_)
 refine Z106 (rs := [.cell 2 28]) [.agg (u8s (if bb.length = 32 then bb else List.replicate 32 0#8)).toArray] ((some b, blk (rdC A its.length c (i + 1) (if e = 0 then k else e)) 106) :: ((some b2, blk (u8s (if bb.length = 32 then bb else List.replicate 32 0#8)) 28) :: (some b3, blk (u8s (if bb.length = 32 then bb else List.replicate 32 0#8)) 28) :: (ob, blk (u8s (if bb.length = 32 then bb else List.replicate 32 0#8) ++ r2) 5) :: B)) rfl ?_ rfl ⟨_, hk, rfl, rfl⟩ (fun w m => m.pick [3, 0, 1, 2] 4 rfl rfl) _ (.inl rfl)
 exact ⟨⟨_, _, _, _, rfl, Zh, rfl, rfl, (by rw [hul]; rfl), rfl⟩, trivial⟩
theorem waybillref19_Parse_does (w0 : World) (Φ : Ctx) (N : List Ent) (hΦ : ∀ w, Mem w0 w N → Φ w) (cs0_ : List Value) (a0 : It) (res0 : Hdr) (res1 : Nat) (ha0 : ItRd Φ cs0_ a0) (hf : waybillref19_Parse a0 = some (res0, res1)) : DoesG Tryd.prog 17 [.agg cs0_.toArray] w0 [] N (fun v G => ∃ B : List Ent, ∃ cr0 : List Value, (HdrRd (More w0 Φ B) cr0 res0) ∧ (res1 ≤ 9223372036854775807) ∧ v = .tuple #[.agg cr0.toArray, .int .i64 ((res1 : Nat) : Int)] ∧ G = B) := by
 unfold waybillref19_Parse at hf
 obtain ⟨⟨its, e⟩, he, hf⟩ := Option.bind_eq_some_iff.1 hf
 dsimp only at hf
 have hcl := ItRd.len _ _ ha0
 have hzero : ∀ Ψ, HdrRd Ψ (Hdr.zero.C none 0).C Hdr.zero := fun Ψ => ⟨none, 0, rfl, View.nil, by decide, by decide⟩
 refine DoesG.enter Tryd.func17 rfl Tryd.ntmps17 rfl (M := N) rfl (Z4 (Z2 (OW.boxA rfl rfl (fun b1 => (OW.alloc (l := (Hdr.zero.C none 0).C) rfl Z121 rfl (fun b2 => (Z0 (Z5 rfl) rfl (Z6 ?_))))))))
 (refine Z1 ?_; refine Z4 ?_)
 refine Z2 (Z0 (Z22 rfl (List.Mem.tail _ Zh) rfl rfl rfl rfl hcl) rfl ?_)
 refine Z12 Tryd.call46 rfl (waybillref07_GetList_does w0 Φ ((some b2, blk (Hdr.zero.C none 0).C 38) :: (some b1, blk cs0_ 25) :: N) (fun w m => hΦ w (m.drop 2)) cs0_ a0 its e ha0 he) rfl rfl ?_; rintro _ _ ⟨B0, cr, oi, ci, ri, hri, oo, heb, rfl, rfl⟩; refine Z20 (M' := (some b2, blk (Hdr.zero.C none 0).C 38) :: (((oi, blk (cr ++ ri) 25) :: B0) ++ N)) (fun w m => (m.sk1.sk2).pick [1, 0] 3 rfl rfl) ?_
 refine Z0 (Z3 rfl) rfl (Z0 (Z17 rfl rfl) rfl (Z0 (Z17 rfl rfl) rfl (Z0 (Z5 rfl) rfl (Z0 (Z5 rfl) rfl (Z6 ?_)))))
 (refine Z1 ?_; refine Z4 ?_; refine Z4 ?_)
 by_cases h1 : e = 0
 case neg =>
  rw [if_neg h1] at hf
  obtain ⟨rfl, rfl⟩ := Prod.mk.inj (Zi hf)
  refine Z2 (Z0 (Z3 rfl) rfl (Z0 (RV.neq_t rfl rfl (by omega)) rfl (Z6 (Z1 (CW.cond_t rfl (Z4 (Z2 (Z0 (Z109 (l := (Hdr.zero.C none 0).C) (cs := (Hdr.zero.C none 0).C) [] rfl rfl rfl Z121 rfl rfl rfl) rfl (Z0 (Z3 rfl) rfl ?_)))))))))
  refine Z28 (Z105 rfl rfl rfl zhdr_one rfl Z111 Z111) (Z0 (Z5 rfl) rfl (Z6 ?_))
  (refine Z1 ?_; refine CW.ret ?_; refine Z8 ?_)
  refine Z106 (rs := [.cell 2 38, .tmp 3]) [.agg ((Hdr.zero.C none 0).C).toArray, .int .i64 (e : Int)] ((some b2, blk (Hdr.zero.C none 0).C 38) :: []) rfl ?_ rfl ?_ ?_ _ (.inl rfl)
  ·exact ⟨⟨_, _, _, _, rfl, Zh, rfl, rfl, (by rw [Z111]; rfl), rfl⟩, rfl, trivial⟩
  ·exact ⟨_, _, hzero _, heb, rfl, rfl⟩
  ·exact fun w m => m.pick [0] 1 rfl rfl |>.sublist (List.Sublist.cons_cons _ (List.sublist_append_right _ _))
 subst h1
 rw [if_pos rfl] at hf
 obtain ⟨t, ht, hf⟩ := Option.bind_eq_some_iff.1 hf
 have hmi := oo.mx
 refine Z2 (Z0 (Z3 rfl) rfl (Z0 (RV.neq_f rfl rfl (by omega)) rfl (Z6 (Z1 (Z135 rfl ?_)))))
 (refine CW.skip ?_; refine Z1 ?_; refine Z4 ?_)
 refine Z2 (Z0 (Z3 rfl) rfl (Z0 (RV.len rfl rfl) rfl ?_))
 refine Z12 Tryd.call47 rfl (waybillref19_tail_does w0 (fun _ => True) ((some b2, blk (Hdr.zero.C none 0).C 38) :: (((oi, blk (cr ++ ri) 25) :: B0) ++ N)) (fun _ _ => trivial) _ t (by omega) ht) rfl rfl ?_; rintro _ G1 ⟨htb, rfl⟩; refine Z20 (M' := (some b2, blk (Hdr.zero.C none 0).C 38) :: (((oi, blk (cr ++ ri) 25) :: B0) ++ N)) (fun w m => m.appR) ?_
 refine Z0 (Z109 (l := (Hdr.zero.C none 0).C) (cs := (({ Hdr.zero with tail := t } : Hdr).C none 0).C) [(15, [.int .i64 t])] rfl rfl rfl Z121 rfl rfl (fillL_one rfl (by rw [Z111]; decide) (HdrC.C_tail_set _ t))) rfl ?_
 refine OW.alloc (l := (Hdr.zero.C none 0).C) rfl Z121 rfl (fun b6 => (Z28 (Z105 rfl rfl rfl zhdr_one rfl Z111 Z111) (Z6 ?_)))
 (refine Z1 ?_; refine Z4 ?_; refine Z4 ?_)
 have hvi : View (More w0 Φ ((oi, blk (cr ++ ri) 25) :: B0)) (oi.map fun k => ⟨k, 0, none⟩) its.length ci 3 cr := oo.view (te := 25) (w0 := w0) (by decide) (fun w q => q.2.sublist (List.singleton_sublist.2 (List.mem_cons_self ..)))
 replace hri := hri.mono (ItRd.mono (Ψ := More w0 Φ ((oi, blk (cr ++ ri) 25) :: B0)) (fun w q => ⟨q.1, q.2.tail⟩))
 have htl : ((({ Hdr.zero with tail := t } : Hdr).C none 0).C)[485]? = some (.int .i64 t) := Z143 _
 by_cases h2 : t < 0
 ·rw [if_pos h2] at hf
  obtain ⟨rfl, rfl⟩ := Prod.mk.inj (Zi hf)
  refine Z2 (Z0 (Z30 rfl rfl rfl rfl) rfl (Z0 (Z29 rfl Zh rfl rfl rfl htl) rfl (Z0 (RV.lss_t rfl rfl h2) rfl (Z6 (Z1 (CW.cond_t rfl (Z4 (Z2 ?_))))))))
  refine Z0 (Z109 (l := (Hdr.zero.C none 0).C) (cs := (Hdr.zero.C none 0).C) [] rfl rfl rfl Z121 rfl rfl rfl) rfl ?_; refine OW.rot1 ?_
  refine Z28 (Z105 rfl rfl rfl zhdr_one rfl Z111 Z111) (Z0 (Z5 rfl) rfl (Z6 ?_))
  (refine Z1 ?_; refine CW.ret ?_; refine Z8 ?_)
  refine Z106 (rs := [.cell 2 38, .tmp 3]) [.agg ((Hdr.zero.C none 0).C).toArray, .int .i64 190] ((some b2, blk (Hdr.zero.C none 0).C 38) :: []) rfl ?_ rfl ?_ ?_ _ (.inl rfl)
  ·exact ⟨⟨_, _, _, _, rfl, Zh, rfl, rfl, (by rw [Z111]; rfl), rfl⟩, rfl, trivial⟩
  ·exact ⟨_, _, hzero _, by omega, rfl, rfl⟩
  ·exact fun w m => (m.pick [0] 2 rfl rfl : Mem w0 w ((some b2, blk (Hdr.zero.C none 0).C 38) :: (((oi, blk (cr ++ ri) 25) :: B0) ++ N))).sublist (List.Sublist.cons_cons _ (List.sublist_append_right _ _))
 rw [if_neg h2] at hf
 rw [rtail_eq] at ht
 have hn21 := tailOf_le ht h2
 obtain ⟨hct, ht0, ht4⟩ := cnt_tailOf ht h2
 have hcn := cnt_le t
 obtain ⟨⟨hh3, ee3⟩, hp, hf⟩ := Option.bind_eq_some_iff.1 hf
 dsimp only at hf
 refine Z2 (Z0 (Z30 rfl rfl rfl rfl) rfl (Z0 (Z29 rfl Zh rfl rfl rfl htl) rfl (Z0 (RV.lss_f rfl rfl h2) rfl (Z6 (Z1 (Z135 rfl ?_))))))
 (refine CW.skip ?_; refine Z1 ?_; refine Z4 ?_)
 refine Z2 (Z0 (Z3 rfl) rfl (Z0 (Z109 (l := [nsl, .int .i64 0, .int .i64 0]) (cs := rdC (oi.map fun k => ⟨k, 0, none⟩) its.length ci 0 0) [(0, [sl oi 0 its.length ci])] rfl rfl rfl rfl rfl rfl rfl) rfl (OW.boxA rfl rfl (fun b27 => (Z0 (Z5 rfl) rfl (Z6 ?_))))))
 (refine Z1 ?_; refine Z4 ?_)
 have hΨ : ∀ w, Mem w0 w N → Mem w0 w ((oi, blk (cr ++ ri) 25) :: B0) → More w0 Φ ((oi, blk (cr ++ ri) 25) :: B0) w := fun w m1 m2 => ⟨hΦ w m1, m2⟩
 obtain ⟨hd0, hhd0⟩ : ∃ h0 : Hdr, ({ Hdr.zero with tail := t } : Hdr) = h0 := ⟨_, rfl⟩
 obtain ⟨A0, hA0⟩ : ∃ A0 : Option Addr, none = A0 := ⟨_, rfl⟩
 obtain ⟨c0, hc0⟩ : ∃ c0 : Nat, 0 = c0 := ⟨_, rfl⟩
 obtain ⟨er0, her0⟩ : ∃ c0 : Nat, 0 = c0 := ⟨_, rfl⟩
 obtain ⟨BB0, hBB0⟩ : ∃ BB0 : List Ent, ((oi, blk (cr ++ ri) 25) :: B0) = BB0 := ⟨_, rfl⟩
 have hv0 : View (More w0 Φ BB0) A0 hd0.extra.length c0 1 (u8s hd0.extra) := by rw [← hhd0, ← hA0, ← hc0]; exact View.nil
 have htl0 : hd0.tail = t := by rw [← hhd0]
 have hb0 : er0 ≤ 9223372036854775807 := by omega
 have hB0 : ∀ w, Mem w0 w BB0 → Mem w0 w ((oi, blk (cr ++ ri) 25) :: B0) := fun w m => by rw [hBB0]; exact m
 have hp0 : refL 0 (its.drop 0) hd0 er0 = some (hh3, ee3) := by rw [← hhd0, ← her0]; exact hp
 clear hp
 refine CW.mem (M' := (some b27, blk (rdC (oi.map fun k => ⟨k, 0, none⟩) its.length ci 0 er0) 106) :: (some b6, blk (hd0.C A0 c0).C 38) :: (some b2, blk (Hdr.zero.C none 0).C 38) :: (BB0 ++ N)) (fun w m => by rw [← hhd0, ← hA0, ← hc0, ← her0, ← hBB0]; exact m) ?_
 clear hBB0
 have hs0 : slotL[0]? = some (.text 0 32) := rfl
 have hi0 : 0 < its.length := by omega
 have hx0 : its[0]? = some its[0] := List.getElem?_eq_getElem hi0
 rw [List.drop_eq_getElem_cons hi0, refL, hs0] at hp0
 obtain ⟨⟨f0, er1⟩, hr0, hp1⟩ := Option.bind_eq_some_iff.1 hp0
 dsimp only at hp1
 rw [refS] at hr0
 obtain ⟨⟨y0, k0⟩, hg0, hr0⟩ := Option.bind_eq_some_iff.1 hr0
 obtain ⟨hf0, he1⟩ := Prod.mk.inj (Zi hr0)
 dsimp only at hf0 he1
 subst hf0
 have hfl0 : ((if y0.length = 32 then y0 else List.replicate 32 0#8)).length = 32 := by split <;> simp_all
 refine Z2 (Z0 (Z3 rfl) rfl ?_)
 refine Z12 Tryd.call48 rfl (rd19_hash w0 (More w0 Φ ((oi, blk (cr ++ ri) 25) :: B0)) ((some b6, blk (hd0.C A0 c0).C 38) :: (some b2, blk (Hdr.zero.C none 0).C 38) :: (BB0 ++ N)) (fun w m => hΨ w (m.drop 2).appR ((hB0 w (m.drop 2).appL))) b27 (oi.map fun k => ⟨k, 0, none⟩) ci cr its 0 er0 its[0] y0 k0 hvi hri hx0 hg0) rfl rfl ?_; rintro _ _ ⟨Bn0, hk0, rfl, rfl⟩; rw [he1]; refine Z20 (M' := (some b6, blk (hd0.C A0 c0).C 38) :: (some b27, blk (rdC (oi.map fun k => ⟨k, 0, none⟩) its.length ci 1 er1) 106) :: (some b2, blk (Hdr.zero.C none 0).C 38) :: ((Bn0 ++ BB0) ++ N)) (fun w m => m.chunk [[(some b27, blk (rdC (oi.map fun k => ⟨k, 0, none⟩) its.length ci 1 er1) 106)], Bn0, [(some b6, blk (hd0.C A0 c0).C 38)], [(some b2, blk (Hdr.zero.C none 0).C 38)], BB0, N] [2, 0, 3, 1, 4, 5] rfl (by simp) (by simp)) ?_
 refine Z0 (Z30 rfl rfl rfl rfl) rfl ?_
 refine Z28 (Z133 rfl rfl rfl (Z123 _) rfl (by rw [Z100, hfl0]; rfl) (by rw [Z111]; decide)) ?_; have hv0' := hv0.mono (Ψ := More w0 Φ (Bn0 ++ BB0)) (fun w q => ⟨q.1, q.2.appR⟩); obtain ⟨A1, c1, hc1, hv1⟩ := Wrote.put (Ψ := More w0 Φ (Bn0 ++ BB0)) hs0 (show Wrote _ (hd0.C A0 c0).C (spl (hd0.C A0 c0).C 0 (u8s (if y0.length = 32 then y0 else List.replicate 32 0#8))) (.text 0 32) (.text (if y0.length = 32 then y0 else List.replicate 32 0#8)) from ⟨Nat.le_of_eq hfl0, rfl⟩) hv0'; refine OW.cells _ hc1 ?_
 refine Z6 ?_
 (refine Z1 ?_; refine Z4 ?_)
 have htl1 : (hd0.put 0 (.text (if y0.length = 32 then y0 else List.replicate 32 0#8))).tail = t := by rw [Z113]; exact htl0
 have hb1 : er1 ≤ 9223372036854775807 := by rw [← he1]; split <;> omega
 have hB1 : ∀ w, Mem w0 w (Bn0 ++ BB0) → Mem w0 w ((oi, blk (cr ++ ri) 25) :: B0) := fun w m => hB0 w m.appR
 generalize hgn1 : hd0.put 0 (.text (if y0.length = 32 then y0 else List.replicate 32 0#8)) = hd1 at *
 generalize hbb1 : (Bn0 ++ BB0) = BB1 at *
 clear hgn1 hbb1 he1 hk0 hc1 hg0 hv0 hv0' hB0 htl0 hb0 hfl0
 refine CW.mem (M' := (some b27, blk (rdC (oi.map fun k => ⟨k, 0, none⟩) its.length ci 1 er1) 106) :: (some b6, blk (hd1.C A1 c1).C 38) :: (some b2, blk (Hdr.zero.C none 0).C 38) :: (BB1 ++ N)) (fun w m => m.rot1) ?_
 have hs1 : slotL[1]? = some (.text 32 32) := rfl
 have hi1 : 1 < its.length := by omega
 have hx1 : its[1]? = some its[1] := List.getElem?_eq_getElem hi1
 rw [List.drop_eq_getElem_cons hi1, refL, hs1] at hp1
 obtain ⟨⟨f1, er2⟩, hr1, hp2⟩ := Option.bind_eq_some_iff.1 hp1
 dsimp only at hp2
 rw [refS] at hr1
 obtain ⟨⟨y1, k1⟩, hg1, hr1⟩ := Option.bind_eq_some_iff.1 hr1
 obtain ⟨hf1, he2⟩ := Prod.mk.inj (Zi hr1)
 dsimp only at hf1 he2
 subst hf1
 have hfl1 : ((if y1.length = 32 then y1 else List.replicate 32 0#8)).length = 32 := by split <;> simp_all
 refine Z2 (Z0 (Z3 rfl) rfl ?_)
 refine Z12 Tryd.call48 rfl (rd19_hash w0 (More w0 Φ ((oi, blk (cr ++ ri) 25) :: B0)) ((some b6, blk (hd1.C A1 c1).C 38) :: (some b2, blk (Hdr.zero.C none 0).C 38) :: (BB1 ++ N)) (fun w m => hΨ w (m.drop 2).appR ((hB1 w (m.drop 2).appL))) b27 (oi.map fun k => ⟨k, 0, none⟩) ci cr its 1 er1 its[1] y1 k1 hvi hri hx1 hg1) rfl rfl ?_; rintro _ _ ⟨Bn1, hk1, rfl, rfl⟩; rw [he2]; refine Z20 (M' := (some b6, blk (hd1.C A1 c1).C 38) :: (some b27, blk (rdC (oi.map fun k => ⟨k, 0, none⟩) its.length ci 2 er2) 106) :: (some b2, blk (Hdr.zero.C none 0).C 38) :: ((Bn1 ++ BB1) ++ N)) (fun w m => m.chunk [[(some b27, blk (rdC (oi.map fun k => ⟨k, 0, none⟩) its.length ci 2 er2) 106)], Bn1, [(some b6, blk (hd1.C A1 c1).C 38)], [(some b2, blk (Hdr.zero.C none 0).C 38)], BB1, N] [2, 0, 3, 1, 4, 5] rfl (by simp) (by simp)) ?_
 refine Z0 (Z30 rfl rfl rfl rfl) rfl ?_
 refine Z28 (Z133 rfl rfl rfl (Z123 _) rfl (by rw [Z100, hfl1]; rfl) (by rw [Z111]; decide)) ?_; have hv1' := hv1.mono (Ψ := More w0 Φ (Bn1 ++ BB1)) (fun w q => ⟨q.1, q.2.appR⟩); obtain ⟨A2, c2, hc2, hv2⟩ := Wrote.put (Ψ := More w0 Φ (Bn1 ++ BB1)) hs1 (show Wrote _ (hd1.C A1 c1).C (spl (hd1.C A1 c1).C 32 (u8s (if y1.length = 32 then y1 else List.replicate 32 0#8))) (.text 32 32) (.text (if y1.length = 32 then y1 else List.replicate 32 0#8)) from ⟨Nat.le_of_eq hfl1, rfl⟩) hv1'; refine OW.cells _ hc2 ?_
 refine Z6 ?_
 (refine Z1 ?_; refine Z4 ?_)
 have htl2 : (hd1.put 1 (.text (if y1.length = 32 then y1 else List.replicate 32 0#8))).tail = t := by rw [Z113]; exact htl1
 have hb2 : er2 ≤ 9223372036854775807 := by rw [← he2]; split <;> omega
 have hB2 : ∀ w, Mem w0 w (Bn1 ++ BB1) → Mem w0 w ((oi, blk (cr ++ ri) 25) :: B0) := fun w m => hB1 w m.appR
 generalize hgn2 : hd1.put 1 (.text (if y1.length = 32 then y1 else List.replicate 32 0#8)) = hd2 at *
 generalize hbb2 : (Bn1 ++ BB1) = BB2 at *
 clear hgn2 hbb2 he2 hk1 hc2 hg1 hv1 hv1' hB1 htl1 hb1 hfl1
 refine CW.mem (M' := (some b27, blk (rdC (oi.map fun k => ⟨k, 0, none⟩) its.length ci 2 er2) 106) :: (some b6, blk (hd2.C A2 c2).C 38) :: (some b2, blk (Hdr.zero.C none 0).C 38) :: (BB2 ++ N)) (fun w m => m.rot1) ?_
 have hs2 : slotL[2]? = some (.text 64 20) := rfl
 have hi2 : 2 < its.length := by omega
 have hx2 : its[2]? = some its[2] := List.getElem?_eq_getElem hi2
 rw [List.drop_eq_getElem_cons hi2, refL, hs2] at hp2
 obtain ⟨⟨f2, er3⟩, hr2, hp3⟩ := Option.bind_eq_some_iff.1 hp2
 dsimp only at hp3
 rw [refS] at hr2
 obtain ⟨⟨y2, k2⟩, hg2, hr2⟩ := Option.bind_eq_some_iff.1 hr2
 obtain ⟨hf2, he3⟩ := Prod.mk.inj (Zi hr2)
 dsimp only at hf2 he3
 subst hf2
 have hfl2 : ((if y2.length = 20 then y2 else List.replicate 20 0#8)).length = 20 := by split <;> simp_all
 refine Z132 ((some b2, blk (Hdr.zero.C none 0).C 38) :: (BB2 ++ N)) [3, 4] (fun w m => m.drop 2) mixed (by kernel_rfl) (Z10 0 rfl (by kernel_rfl) rfl (Z30 rfl rfl rfl rfl) rfl (Z10 1 rfl (by kernel_rfl) rfl (Z126 rfl rfl rfl) rfl (XW.slot (sl (some b6) 64 20 20) rfl (Z10 2 rfl (by kernel_rfl) rfl (Z3 rfl) rfl ?_))))
 refine XW.callE 3 rfl (by kernel_rfl) rfl Tryd.call49 rfl (fun N2 h2 => rd19_fixed w0 (More w0 Φ ((oi, blk (cr ++ ri) 25) :: B0)) N2 (fun w m => by have m := h2 w m; exact hΨ w (m.drop 2).appR (hB2 w (m.drop 2).appL)) b27 (oi.map fun k => ⟨k, 0, none⟩) ci cr its 2 er2 20 its[2] y2 k2 hvi hri hx2 (by decide) hg2) (fun w m => m.tail) rfl ?_
 rintro _ _ ⟨o2, cc2, rr2, Bn2, hk2, ow2, rfl, rfl⟩
 rw [he3]
 refine Z19 (M' := (some b6, blk (hd2.C A2 c2).C 38) :: (o2, blk (u8s (if y2.length = 20 then y2 else List.replicate 20 0#8) ++ rr2) 5) :: (some b27, blk (rdC (oi.map fun k => ⟨k, 0, none⟩) its.length ci 3 er3) 106) :: (some b2, blk (Hdr.zero.C none 0).C 38) :: ((Bn2 ++ BB2) ++ N)) (fun w m => m.chunk [[(some b27, blk (rdC (oi.map fun k => ⟨k, 0, none⟩) its.length ci 3 er3) 106)], [(o2, blk (u8s (if y2.length = 20 then y2 else List.replicate 20 0#8) ++ rr2) 5)], Bn2, [(some b6, blk (hd2.C A2 c2).C 38)], [(some b2, blk (Hdr.zero.C none 0).C 38)], BB2, N] [3, 1, 0, 4, 2, 5, 6] rfl (by simp) (by simp)) (fun w m => m.chunk [[(some b6, blk (hd2.C A2 c2).C 38)], [(o2, blk (u8s (if y2.length = 20 then y2 else List.replicate 20 0#8) ++ rr2) 5)], [(some b27, blk (rdC (oi.map fun k => ⟨k, 0, none⟩) its.length ci 3 er3) 106)], [(some b2, blk (Hdr.zero.C none 0).C 38)], Bn2, BB2, N] [3, 5, 6] rfl (by simp) (by simp)) ?_
 refine XW.copyS 4 (s := 1) rfl (by kernel_rfl) rfl rfl rfl rfl (fun h => nomatch h) (by rw [Z111]; decide) (fun w m => m.rd0 (List.Mem.tail _ Zh) (fun h => ow2.nilc (by decide) h)) (by rw [Z100, hfl2]) (Z123 _) (ow2.zeroO (by decide)) (fun w m => m.chunk [[(o2, blk (u8s (if y2.length = 20 then y2 else List.replicate 20 0#8) ++ rr2) 5)], [(some b27, blk (rdC (oi.map fun k => ⟨k, 0, none⟩) its.length ci 3 er3) 106)], [(some b2, blk (Hdr.zero.C none 0).C 38)], Bn2, BB2, N] [2, 4, 5] rfl (by simp) (by simp)) rfl ?_
 rw [List.take_of_length_le (by rw [Z100, hfl2]; decide)]
 have hv2' := hv2.mono (Ψ := More w0 Φ (Bn2 ++ BB2)) (fun w q => ⟨q.1, q.2.appR⟩)
 obtain ⟨A3, c3, hc3, hv3⟩ := Wrote.put (Ψ := More w0 Φ (Bn2 ++ BB2)) hs2 (show Wrote _ (hd2.C A2 c2).C (spl (hd2.C A2 c2).C 64 (u8s (if y2.length = 20 then y2 else List.replicate 20 0#8))) (.text 64 20) (.text (if y2.length = 20 then y2 else List.replicate 20 0#8)) from ⟨Nat.le_of_eq hfl2, rfl⟩) hv2'
 refine XW.cells _ hc3 (XW.nil (by kernel_rfl) ?_)
 (refine Z1 ?_; refine Z4 ?_)
 have htl3 : (hd2.put 2 (.text (if y2.length = 20 then y2 else List.replicate 20 0#8))).tail = t := by rw [Z113]; exact htl2
 have hb3 : er3 ≤ 9223372036854775807 := by rw [← he3]; split <;> omega
 have hB3 : ∀ w, Mem w0 w (Bn2 ++ BB2) → Mem w0 w ((oi, blk (cr ++ ri) 25) :: B0) := fun w m => hB2 w m.appR
 generalize hgn3 : hd2.put 2 (.text (if y2.length = 20 then y2 else List.replicate 20 0#8)) = hd3 at *
 generalize hbb3 : (Bn2 ++ BB2) = BB3 at *
 clear hgn3 hbb3 he3 hk2 hc3 hg2 hv2 hv2' hB2 htl2 hb2 hfl2
 refine CW.mem (M' := (some b27, blk (rdC (oi.map fun k => ⟨k, 0, none⟩) its.length ci 3 er3) 106) :: (some b6, blk (hd3.C A3 c3).C 38) :: (some b2, blk (Hdr.zero.C none 0).C 38) :: (BB3 ++ N)) (fun w m => m.pick [2, 0, 3] 4 rfl rfl) ?_
 have hs3 : slotL[3]? = some (.text 84 32) := rfl
 have hi3 : 3 < its.length := by omega
 have hx3 : its[3]? = some its[3] := List.getElem?_eq_getElem hi3
 rw [List.drop_eq_getElem_cons hi3, refL, hs3] at hp3
 obtain ⟨⟨f3, er4⟩, hr3, hp4⟩ := Option.bind_eq_some_iff.1 hp3
 dsimp only at hp4
 rw [refS] at hr3
 obtain ⟨⟨y3, k3⟩, hg3, hr3⟩ := Option.bind_eq_some_iff.1 hr3
 obtain ⟨hf3, he4⟩ := Prod.mk.inj (Zi hr3)
 dsimp only at hf3 he4
 subst hf3
 have hfl3 : ((if y3.length = 32 then y3 else List.replicate 32 0#8)).length = 32 := by split <;> simp_all
 refine Z2 (Z0 (Z3 rfl) rfl ?_)
 refine Z12 Tryd.call48 rfl (rd19_hash w0 (More w0 Φ ((oi, blk (cr ++ ri) 25) :: B0)) ((some b6, blk (hd3.C A3 c3).C 38) :: (some b2, blk (Hdr.zero.C none 0).C 38) :: (BB3 ++ N)) (fun w m => hΨ w (m.drop 2).appR ((hB3 w (m.drop 2).appL))) b27 (oi.map fun k => ⟨k, 0, none⟩) ci cr its 3 er3 its[3] y3 k3 hvi hri hx3 hg3) rfl rfl ?_; rintro _ _ ⟨Bn3, hk3, rfl, rfl⟩; rw [he4]; refine Z20 (M' := (some b6, blk (hd3.C A3 c3).C 38) :: (some b27, blk (rdC (oi.map fun k => ⟨k, 0, none⟩) its.length ci 4 er4) 106) :: (some b2, blk (Hdr.zero.C none 0).C 38) :: ((Bn3 ++ BB3) ++ N)) (fun w m => m.chunk [[(some b27, blk (rdC (oi.map fun k => ⟨k, 0, none⟩) its.length ci 4 er4) 106)], Bn3, [(some b6, blk (hd3.C A3 c3).C 38)], [(some b2, blk (Hdr.zero.C none 0).C 38)], BB3, N] [2, 0, 3, 1, 4, 5] rfl (by simp) (by simp)) ?_
 refine Z0 (Z30 rfl rfl rfl rfl) rfl ?_
 refine Z28 (Z133 rfl rfl rfl (Z123 _) rfl (by rw [Z100, hfl3]; rfl) (by rw [Z111]; decide)) ?_; have hv3' := hv3.mono (Ψ := More w0 Φ (Bn3 ++ BB3)) (fun w q => ⟨q.1, q.2.appR⟩); obtain ⟨A4, c4, hc4, hv4⟩ := Wrote.put (Ψ := More w0 Φ (Bn3 ++ BB3)) hs3 (show Wrote _ (hd3.C A3 c3).C (spl (hd3.C A3 c3).C 84 (u8s (if y3.length = 32 then y3 else List.replicate 32 0#8))) (.text 84 32) (.text (if y3.length = 32 then y3 else List.replicate 32 0#8)) from ⟨Nat.le_of_eq hfl3, rfl⟩) hv3'; refine OW.cells _ hc4 ?_
 refine Z6 ?_
 (refine Z1 ?_; refine Z4 ?_)
 have htl4 : (hd3.put 3 (.text (if y3.length = 32 then y3 else List.replicate 32 0#8))).tail = t := by rw [Z113]; exact htl3
 have hb4 : er4 ≤ 9223372036854775807 := by rw [← he4]; split <;> omega
 have hB4 : ∀ w, Mem w0 w (Bn3 ++ BB3) → Mem w0 w ((oi, blk (cr ++ ri) 25) :: B0) := fun w m => hB3 w m.appR
 generalize hgn4 : hd3.put 3 (.text (if y3.length = 32 then y3 else List.replicate 32 0#8)) = hd4 at *
 generalize hbb4 : (Bn3 ++ BB3) = BB4 at *
 clear hgn4 hbb4 he4 hk3 hc4 hg3 hv3 hv3' hB3 htl3 hb3 hfl3
 refine CW.mem (M' := (some b27, blk (rdC (oi.map fun k => ⟨k, 0, none⟩) its.length ci 4 er4) 106) :: (some b6, blk (hd4.C A4 c4).C 38) :: (some b2, blk (Hdr.zero.C none 0).C 38) :: (BB4 ++ N)) (fun w m => m.rot1) ?_
 have hs4 : slotL[4]? = some (.text 116 32) := rfl
 have hi4 : 4 < its.length := by omega
 have hx4 : its[4]? = some its[4] := List.getElem?_eq_getElem hi4
 rw [List.drop_eq_getElem_cons hi4, refL, hs4] at hp4
 obtain ⟨⟨f4, er5⟩, hr4, hp5⟩ := Option.bind_eq_some_iff.1 hp4
 dsimp only at hp5
 rw [refS] at hr4
 obtain ⟨⟨y4, k4⟩, hg4, hr4⟩ := Option.bind_eq_some_iff.1 hr4
 obtain ⟨hf4, he5⟩ := Prod.mk.inj (Zi hr4)
 dsimp only at hf4 he5
 subst hf4
 have hfl4 : ((if y4.length = 32 then y4 else List.replicate 32 0#8)).length = 32 := by split <;> simp_all
 refine Z2 (Z0 (Z3 rfl) rfl ?_)
 refine Z12 Tryd.call48 rfl (rd19_hash w0 (More w0 Φ ((oi, blk (cr ++ ri) 25) :: B0)) ((some b6, blk (hd4.C A4 c4).C 38) :: (some b2, blk (Hdr.zero.C none 0).C 38) :: (BB4 ++ N)) (fun w m => hΨ w (m.drop 2).appR ((hB4 w (m.drop 2).appL))) b27 (oi.map fun k => ⟨k, 0, none⟩) ci cr its 4 er4 its[4] y4 k4 hvi hri hx4 hg4) rfl rfl ?_; rintro _ _ ⟨Bn4, hk4, rfl, rfl⟩; rw [he5]; refine Z20 (M' := (some b6, blk (hd4.C A4 c4).C 38) :: (some b27, blk (rdC (oi.map fun k => ⟨k, 0, none⟩) its.length ci 5 er5) 106) :: (some b2, blk (Hdr.zero.C none 0).C 38) :: ((Bn4 ++ BB4) ++ N)) (fun w m => m.chunk [[(some b27, blk (rdC (oi.map fun k => ⟨k, 0, none⟩) its.length ci 5 er5) 106)], Bn4, [(some b6, blk (hd4.C A4 c4).C 38)], [(some b2, blk (Hdr.zero.C none 0).C 38)], BB4, N] [2, 0, 3, 1, 4, 5] rfl (by simp) (by simp)) ?_
 refine Z0 (Z30 rfl rfl rfl rfl) rfl ?_
 refine Z28 (Z133 rfl rfl rfl (Z123 _) rfl (by rw [Z100, hfl4]; rfl) (by rw [Z111]; decide)) ?_; have hv4' := hv4.mono (Ψ := More w0 Φ (Bn4 ++ BB4)) (fun w q => ⟨q.1, q.2.appR⟩); obtain ⟨A5, c5, hc5, hv5⟩ := Wrote.put (Ψ := More w0 Φ (Bn4 ++ BB4)) hs4 (show Wrote _ (hd4.C A4 c4).C (spl (hd4.C A4 c4).C 116 (u8s (if y4.length = 32 then y4 else List.replicate 32 0#8))) (.text 116 32) (.text (if y4.length = 32 then y4 else List.replicate 32 0#8)) from ⟨Nat.le_of_eq hfl4, rfl⟩) hv4'; refine OW.cells _ hc5 ?_
 refine Z6 ?_
 (refine Z1 ?_; refine Z4 ?_)
 have htl5 : (hd4.put 4 (.text (if y4.length = 32 then y4 else List.replicate 32 0#8))).tail = t := by rw [Z113]; exact htl4
 have hb5 : er5 ≤ 9223372036854775807 := by rw [← he5]; split <;> omega
 have hB5 : ∀ w, Mem w0 w (Bn4 ++ BB4) → Mem w0 w ((oi, blk (cr ++ ri) 25) :: B0) := fun w m => hB4 w m.appR
 generalize hgn5 : hd4.put 4 (.text (if y4.length = 32 then y4 else List.replicate 32 0#8)) = hd5 at *
 generalize hbb5 : (Bn4 ++ BB4) = BB5 at *
 clear hgn5 hbb5 he5 hk4 hc5 hg4 hv4 hv4' hB4 htl4 hb4 hfl4
 refine CW.mem (M' := (some b27, blk (rdC (oi.map fun k => ⟨k, 0, none⟩) its.length ci 5 er5) 106) :: (some b6, blk (hd5.C A5 c5).C 38) :: (some b2, blk (Hdr.zero.C none 0).C 38) :: (BB5 ++ N)) (fun w m => m.rot1) ?_
 have hs5 : slotL[5]? = some (.text 148 32) := rfl
 have hi5 : 5 < its.length := by omega
 have hx5 : its[5]? = some its[5] := List.getElem?_eq_getElem hi5
 rw [List.drop_eq_getElem_cons hi5, refL, hs5] at hp5
 obtain ⟨⟨f5, er6⟩, hr5, hp6⟩ := Option.bind_eq_some_iff.1 hp5
 dsimp only at hp6
 rw [refS] at hr5
 obtain ⟨⟨y5, k5⟩, hg5, hr5⟩ := Option.bind_eq_some_iff.1 hr5
 obtain ⟨hf5, he6⟩ := Prod.mk.inj (Zi hr5)
 dsimp only at hf5 he6
 subst hf5
 have hfl5 : ((if y5.length = 32 then y5 else List.replicate 32 0#8)).length = 32 := by split <;> simp_all
 refine Z2 (Z0 (Z3 rfl) rfl ?_)
 refine Z12 Tryd.call48 rfl (rd19_hash w0 (More w0 Φ ((oi, blk (cr ++ ri) 25) :: B0)) ((some b6, blk (hd5.C A5 c5).C 38) :: (some b2, blk (Hdr.zero.C none 0).C 38) :: (BB5 ++ N)) (fun w m => hΨ w (m.drop 2).appR ((hB5 w (m.drop 2).appL))) b27 (oi.map fun k => ⟨k, 0, none⟩) ci cr its 5 er5 its[5] y5 k5 hvi hri hx5 hg5) rfl rfl ?_; rintro _ _ ⟨Bn5, hk5, rfl, rfl⟩; rw [he6]; refine Z20 (M' := (some b6, blk (hd5.C A5 c5).C 38) :: (some b27, blk (rdC (oi.map fun k => ⟨k, 0, none⟩) its.length ci 6 er6) 106) :: (some b2, blk (Hdr.zero.C none 0).C 38) :: ((Bn5 ++ BB5) ++ N)) (fun w m => m.chunk [[(some b27, blk (rdC (oi.map fun k => ⟨k, 0, none⟩) its.length ci 6 er6) 106)], Bn5, [(some b6, blk (hd5.C A5 c5).C 38)], [(some b2, blk (Hdr.zero.C none 0).C 38)], BB5, N] [2, 0, 3, 1, 4, 5] rfl (by simp) (by simp)) ?_
 refine Z0 (Z30 rfl rfl rfl rfl) rfl ?_
 refine Z28 (Z133 rfl rfl rfl (Z123 _) rfl (by rw [Z100, hfl5]; rfl) (by rw [Z111]; decide)) ?_; have hv5' := hv5.mono (Ψ := More w0 Φ (Bn5 ++ BB5)) (fun w q => ⟨q.1, q.2.appR⟩); obtain ⟨A6, c6, hc6, hv6⟩ := Wrote.put (Ψ := More w0 Φ (Bn5 ++ BB5)) hs5 (show Wrote _ (hd5.C A5 c5).C (spl (hd5.C A5 c5).C 148 (u8s (if y5.length = 32 then y5 else List.replicate 32 0#8))) (.text 148 32) (.text (if y5.length = 32 then y5 else List.replicate 32 0#8)) from ⟨Nat.le_of_eq hfl5, rfl⟩) hv5'; refine OW.cells _ hc6 ?_
 refine Z6 ?_
 (refine Z1 ?_; refine Z4 ?_)
 have htl6 : (hd5.put 5 (.text (if y5.length = 32 then y5 else List.replicate 32 0#8))).tail = t := by rw [Z113]; exact htl5
 have hb6 : er6 ≤ 9223372036854775807 := by rw [← he6]; split <;> omega
 have hB6 : ∀ w, Mem w0 w (Bn5 ++ BB5) → Mem w0 w ((oi, blk (cr ++ ri) 25) :: B0) := fun w m => hB5 w m.appR
 generalize hgn6 : hd5.put 5 (.text (if y5.length = 32 then y5 else List.replicate 32 0#8)) = hd6 at *
 generalize hbb6 : (Bn5 ++ BB5) = BB6 at *
 clear hgn6 hbb6 he6 hk5 hc6 hg5 hv5 hv5' hB5 htl5 hb5 hfl5
 refine CW.mem (M' := (some b27, blk (rdC (oi.map fun k => ⟨k, 0, none⟩) its.length ci 6 er6) 106) :: (some b6, blk (hd6.C A6 c6).C 38) :: (some b2, blk (Hdr.zero.C none 0).C 38) :: (BB6 ++ N)) (fun w m => m.rot1) ?_
 have hs6 : slotL[6]? = some (.text 180 256) := rfl
 have hi6 : 6 < its.length := by omega
 have hx6 : its[6]? = some its[6] := List.getElem?_eq_getElem hi6
 rw [List.drop_eq_getElem_cons hi6, refL, hs6] at hp6
 obtain ⟨⟨f6, er7⟩, hr6, hp7⟩ := Option.bind_eq_some_iff.1 hp6
 dsimp only at hp7
 rw [refS] at hr6
 obtain ⟨⟨y6, k6⟩, hg6, hr6⟩ := Option.bind_eq_some_iff.1 hr6
 obtain ⟨hf6, he7⟩ := Prod.mk.inj (Zi hr6)
 dsimp only at hf6 he7
 subst hf6
 have hfl6 : ((if y6.length = 256 then y6 else List.replicate 256 0#8)).length = 256 := by split <;> simp_all
 refine Z132 ((some b2, blk (Hdr.zero.C none 0).C 38) :: (BB6 ++ N)) [3, 4] (fun w m => m.drop 2) mixed (by kernel_rfl) (Z10 0 rfl (by kernel_rfl) rfl (Z30 rfl rfl rfl rfl) rfl (Z10 1 rfl (by kernel_rfl) rfl (Z126 rfl rfl rfl) rfl (XW.slot (sl (some b6) 180 256 256) rfl (Z10 2 rfl (by kernel_rfl) rfl (Z3 rfl) rfl ?_))))
 refine XW.callE 3 rfl (by kernel_rfl) rfl Tryd.call49 rfl (fun N2 h2 => rd19_fixed w0 (More w0 Φ ((oi, blk (cr ++ ri) 25) :: B0)) N2 (fun w m => by have m := h2 w m; exact hΨ w (m.drop 2).appR (hB6 w (m.drop 2).appL)) b27 (oi.map fun k => ⟨k, 0, none⟩) ci cr its 6 er6 256 its[6] y6 k6 hvi hri hx6 (by decide) hg6) (fun w m => m.tail) rfl ?_
 rintro _ _ ⟨o6, cc6, rr6, Bn6, hk6, ow6, rfl, rfl⟩
 rw [he7]
 refine Z19 (M' := (some b6, blk (hd6.C A6 c6).C 38) :: (o6, blk (u8s (if y6.length = 256 then y6 else List.replicate 256 0#8) ++ rr6) 5) :: (some b27, blk (rdC (oi.map fun k => ⟨k, 0, none⟩) its.length ci 7 er7) 106) :: (some b2, blk (Hdr.zero.C none 0).C 38) :: ((Bn6 ++ BB6) ++ N)) (fun w m => m.chunk [[(some b27, blk (rdC (oi.map fun k => ⟨k, 0, none⟩) its.length ci 7 er7) 106)], [(o6, blk (u8s (if y6.length = 256 then y6 else List.replicate 256 0#8) ++ rr6) 5)], Bn6, [(some b6, blk (hd6.C A6 c6).C 38)], [(some b2, blk (Hdr.zero.C none 0).C 38)], BB6, N] [3, 1, 0, 4, 2, 5, 6] rfl (by simp) (by simp)) (fun w m => m.chunk [[(some b6, blk (hd6.C A6 c6).C 38)], [(o6, blk (u8s (if y6.length = 256 then y6 else List.replicate 256 0#8) ++ rr6) 5)], [(some b27, blk (rdC (oi.map fun k => ⟨k, 0, none⟩) its.length ci 7 er7) 106)], [(some b2, blk (Hdr.zero.C none 0).C 38)], Bn6, BB6, N] [3, 5, 6] rfl (by simp) (by simp)) ?_
 refine XW.copyS 4 (s := 1) rfl (by kernel_rfl) rfl rfl rfl rfl (fun h => nomatch h) (by rw [Z111]; decide) (fun w m => m.rd0 (List.Mem.tail _ Zh) (fun h => ow6.nilc (by decide) h)) (by rw [Z100, hfl6]) (Z123 _) (ow6.zeroO (by decide)) (fun w m => m.chunk [[(o6, blk (u8s (if y6.length = 256 then y6 else List.replicate 256 0#8) ++ rr6) 5)], [(some b27, blk (rdC (oi.map fun k => ⟨k, 0, none⟩) its.length ci 7 er7) 106)], [(some b2, blk (Hdr.zero.C none 0).C 38)], Bn6, BB6, N] [2, 4, 5] rfl (by simp) (by simp)) rfl ?_
 rw [List.take_of_length_le (by rw [Z100, hfl6]; decide)]
 have hv6' := hv6.mono (Ψ := More w0 Φ (Bn6 ++ BB6)) (fun w q => ⟨q.1, q.2.appR⟩)
 obtain ⟨A7, c7, hc7, hv7⟩ := Wrote.put (Ψ := More w0 Φ (Bn6 ++ BB6)) hs6 (show Wrote _ (hd6.C A6 c6).C (spl (hd6.C A6 c6).C 180 (u8s (if y6.length = 256 then y6 else List.replicate 256 0#8))) (.text 180 256) (.text (if y6.length = 256 then y6 else List.replicate 256 0#8)) from ⟨Nat.le_of_eq hfl6, rfl⟩) hv6'
 refine XW.cells _ hc7 (XW.nil (by kernel_rfl) ?_)
 (refine Z1 ?_; refine Z4 ?_)
 have htl7 : (hd6.put 6 (.text (if y6.length = 256 then y6 else List.replicate 256 0#8))).tail = t := by rw [Z113]; exact htl6
 have hb7 : er7 ≤ 9223372036854775807 := by rw [← he7]; split <;> omega
 have hB7 : ∀ w, Mem w0 w (Bn6 ++ BB6) → Mem w0 w ((oi, blk (cr ++ ri) 25) :: B0) := fun w m => hB6 w m.appR
 generalize hgn7 : hd6.put 6 (.text (if y6.length = 256 then y6 else List.replicate 256 0#8)) = hd7 at *
 generalize hbb7 : (Bn6 ++ BB6) = BB7 at *
 clear hgn7 hbb7 he7 hk6 hc7 hg6 hv6 hv6' hB6 htl6 hb6 hfl6
 refine CW.mem (M' := (some b27, blk (rdC (oi.map fun k => ⟨k, 0, none⟩) its.length ci 7 er7) 106) :: (some b6, blk (hd7.C A7 c7).C 38) :: (some b2, blk (Hdr.zero.C none 0).C 38) :: (BB7 ++ N)) (fun w m => m.pick [2, 0, 3] 4 rfl rfl) ?_
 have hs7 : slotL[7]? = some (.big 436) := rfl
 have hi7 : 7 < its.length := by omega
 have hx7 : its[7]? = some its[7] := List.getElem?_eq_getElem hi7
 rw [List.drop_eq_getElem_cons hi7, refL, hs7] at hp7
 obtain ⟨⟨f7, er8⟩, hr7, hp8⟩ := Option.bind_eq_some_iff.1 hp7
 dsimp only at hp8
 rw [refS] at hr7
 obtain ⟨⟨y7, k7⟩, hg7, hr7⟩ := Option.bind_eq_some_iff.1 hr7
 obtain ⟨hf7, he8⟩ := Prod.mk.inj (Zi hr7)
 dsimp only at hf7 he8
 subst hf7
 refine Z2 (Z0 (Z3 rfl) rfl ?_)
 refine Z12 Tryd.call50 rfl (rd19_number w0 (More w0 Φ ((oi, blk (cr ++ ri) 25) :: B0)) ((some b6, blk (hd7.C A7 c7).C 38) :: (some b2, blk (Hdr.zero.C none 0).C 38) :: (BB7 ++ N)) (fun w m => hΨ w (m.drop 2).appR ((hB7 w (m.drop 2).appL))) b27 (oi.map fun k => ⟨k, 0, none⟩) ci cr its 7 er7 its[7] y7 k7 hvi hri hx7 hg7) rfl rfl ?_; rintro _ _ ⟨Bn7, hk7, rfl, rfl⟩; rw [he8]; refine Z20 (M' := (some b6, blk (hd7.C A7 c7).C 38) :: (some b27, blk (rdC (oi.map fun k => ⟨k, 0, none⟩) its.length ci 8 er8) 106) :: (some b2, blk (Hdr.zero.C none 0).C 38) :: ((Bn7 ++ BB7) ++ N)) (fun w m => m.chunk [[(some b27, blk (rdC (oi.map fun k => ⟨k, 0, none⟩) its.length ci 8 er8) 106)], Bn7, [(some b6, blk (hd7.C A7 c7).C 38)], [(some b2, blk (Hdr.zero.C none 0).C 38)], BB7, N] [2, 0, 3, 1, 4, 5] rfl (by simp) (by simp)) ?_
 refine Z0 (Z30 rfl rfl rfl rfl) rfl ?_
 refine Z28 (Z133 rfl rfl rfl (Z115 _) rfl ((Z101 _).trans Zv) (by rw [Z111]; decide)) ?_; have hv7' := hv7.mono (Ψ := More w0 Φ (Bn7 ++ BB7)) (fun w q => ⟨q.1, q.2.appR⟩); obtain ⟨A8, c8, hc8, hv8⟩ := Wrote.put (Ψ := More w0 Φ (Bn7 ++ BB7)) hs7 (show Wrote _ (hd7.C A7 c7).C (spl (hd7.C A7 c7).C 436 (u64s y7.toList)) (.big 436) (.big y7) from rfl) hv7'; refine OW.cells _ hc8 ?_
 refine Z6 ?_
 (refine Z1 ?_; refine Z4 ?_)
 have htl8 : (hd7.put 7 (.big y7)).tail = t := by rw [Z113]; exact htl7
 have hb8 : er8 ≤ 9223372036854775807 := by rw [← he8]; split <;> omega
 have hB8 : ∀ w, Mem w0 w (Bn7 ++ BB7) → Mem w0 w ((oi, blk (cr ++ ri) 25) :: B0) := fun w m => hB7 w m.appR
 generalize hgn8 : hd7.put 7 (.big y7) = hd8 at *
 generalize hbb8 : (Bn7 ++ BB7) = BB8 at *
 clear hgn8 hbb8 he8 hk7 hc8 hg7 hv7 hv7' hB7 htl7 hb7
 refine CW.mem (M' := (some b27, blk (rdC (oi.map fun k => ⟨k, 0, none⟩) its.length ci 8 er8) 106) :: (some b6, blk (hd8.C A8 c8).C 38) :: (some b2, blk (Hdr.zero.C none 0).C 38) :: (BB8 ++ N)) (fun w m => m.rot1) ?_
 have hs8 : slotL[8]? = some (.word 440) := rfl
 have hi8 : 8 < its.length := by omega
 have hx8 : its[8]? = some its[8] := List.getElem?_eq_getElem hi8
 rw [List.drop_eq_getElem_cons hi8, refL, hs8] at hp8
 obtain ⟨⟨f8, er9⟩, hr8, hp9⟩ := Option.bind_eq_some_iff.1 hp8
 dsimp only at hp9
 rw [refS] at hr8
 obtain ⟨⟨y8, k8⟩, hg8, hr8⟩ := Option.bind_eq_some_iff.1 hr8
 obtain ⟨hf8, he9⟩ := Prod.mk.inj (Zi hr8)
 dsimp only at hf8 he9
 subst hf8
 refine Z2 (Z0 (Z3 rfl) rfl ?_)
 refine Z12 Tryd.call51 rfl (rd19_small w0 (More w0 Φ ((oi, blk (cr ++ ri) 25) :: B0)) ((some b6, blk (hd8.C A8 c8).C 38) :: (some b2, blk (Hdr.zero.C none 0).C 38) :: (BB8 ++ N)) (fun w m => hΨ w (m.drop 2).appR ((hB8 w (m.drop 2).appL))) b27 (oi.map fun k => ⟨k, 0, none⟩) ci cr its 8 er8 its[8] y8 k8 hvi hri hx8 hg8) rfl rfl ?_; rintro _ _ ⟨Bn8, hk8, rfl, rfl⟩; rw [he9]; refine Z20 (M' := (some b6, blk (hd8.C A8 c8).C 38) :: (some b27, blk (rdC (oi.map fun k => ⟨k, 0, none⟩) its.length ci 9 er9) 106) :: (some b2, blk (Hdr.zero.C none 0).C 38) :: ((Bn8 ++ BB8) ++ N)) (fun w m => m.chunk [[(some b27, blk (rdC (oi.map fun k => ⟨k, 0, none⟩) its.length ci 9 er9) 106)], Bn8, [(some b6, blk (hd8.C A8 c8).C 38)], [(some b2, blk (Hdr.zero.C none 0).C 38)], BB8, N] [2, 0, 3, 1, 4, 5] rfl (by simp) (by simp)) ?_
 refine Z0 (Z30 rfl rfl rfl rfl) rfl ?_
 refine Z28 (SV.store rfl rfl rfl rfl rfl (by rw [Z111]; decide)) ?_; have hv8' := hv8.mono (Ψ := More w0 Φ (Bn8 ++ BB8)) (fun w q => ⟨q.1, q.2.appR⟩); obtain ⟨A9, c9, hc9, hv9⟩ := Wrote.put (Ψ := More w0 Φ (Bn8 ++ BB8)) hs8 (show Wrote _ (hd8.C A8 c8).C ((hd8.C A8 c8).C.set 440 (U64 y8)) (.word 440) (.word y8) from rfl) hv8'; refine OW.cells _ hc9 ?_
 refine Z6 ?_
 (refine Z1 ?_; refine Z4 ?_)
 have htl9 : (hd8.put 8 (.word y8)).tail = t := by rw [Z113]; exact htl8
 have hb9 : er9 ≤ 9223372036854775807 := by rw [← he9]; split <;> omega
 have hB9 : ∀ w, Mem w0 w (Bn8 ++ BB8) → Mem w0 w ((oi, blk (cr ++ ri) 25) :: B0) := fun w m => hB8 w m.appR
 generalize hgn9 : hd8.put 8 (.word y8) = hd9 at *
 generalize hbb9 : (Bn8 ++ BB8) = BB9 at *
 clear hgn9 hbb9 he9 hk8 hc9 hg8 hv8 hv8' hB8 htl8 hb8
 refine CW.mem (M' := (some b27, blk (rdC (oi.map fun k => ⟨k, 0, none⟩) its.length ci 9 er9) 106) :: (some b6, blk (hd9.C A9 c9).C 38) :: (some b2, blk (Hdr.zero.C none 0).C 38) :: (BB9 ++ N)) (fun w m => m.rot1) ?_
 have hs9 : slotL[9]? = some (.word 441) := rfl
 have hi9 : 9 < its.length := by omega
 have hx9 : its[9]? = some its[9] := List.getElem?_eq_getElem hi9
 rw [List.drop_eq_getElem_cons hi9, refL, hs9] at hp9
 obtain ⟨⟨f9, er10⟩, hr9, hp10⟩ := Option.bind_eq_some_iff.1 hp9
 dsimp only at hp10
 rw [refS] at hr9
 obtain ⟨⟨y9, k9⟩, hg9, hr9⟩ := Option.bind_eq_some_iff.1 hr9
 obtain ⟨hf9, he10⟩ := Prod.mk.inj (Zi hr9)
 dsimp only at hf9 he10
 subst hf9
 refine Z2 (Z0 (Z3 rfl) rfl ?_)
 refine Z12 Tryd.call51 rfl (rd19_small w0 (More w0 Φ ((oi, blk (cr ++ ri) 25) :: B0)) ((some b6, blk (hd9.C A9 c9).C 38) :: (some b2, blk (Hdr.zero.C none 0).C 38) :: (BB9 ++ N)) (fun w m => hΨ w (m.drop 2).appR ((hB9 w (m.drop 2).appL))) b27 (oi.map fun k => ⟨k, 0, none⟩) ci cr its 9 er9 its[9] y9 k9 hvi hri hx9 hg9) rfl rfl ?_; rintro _ _ ⟨Bn9, hk9, rfl, rfl⟩; rw [he10]; refine Z20 (M' := (some b6, blk (hd9.C A9 c9).C 38) :: (some b27, blk (rdC (oi.map fun k => ⟨k, 0, none⟩) its.length ci 10 er10) 106) :: (some b2, blk (Hdr.zero.C none 0).C 38) :: ((Bn9 ++ BB9) ++ N)) (fun w m => m.chunk [[(some b27, blk (rdC (oi.map fun k => ⟨k, 0, none⟩) its.length ci 10 er10) 106)], Bn9, [(some b6, blk (hd9.C A9 c9).C 38)], [(some b2, blk (Hdr.zero.C none 0).C 38)], BB9, N] [2, 0, 3, 1, 4, 5] rfl (by simp) (by simp)) ?_
 refine Z0 (Z30 rfl rfl rfl rfl) rfl ?_
 refine Z28 (SV.store rfl rfl rfl rfl rfl (by rw [Z111]; decide)) ?_; have hv9' := hv9.mono (Ψ := More w0 Φ (Bn9 ++ BB9)) (fun w q => ⟨q.1, q.2.appR⟩); obtain ⟨A10, c10, hc10, hv10⟩ := Wrote.put (Ψ := More w0 Φ (Bn9 ++ BB9)) hs9 (show Wrote _ (hd9.C A9 c9).C ((hd9.C A9 c9).C.set 441 (U64 y9)) (.word 441) (.word y9) from rfl) hv9'; refine OW.cells _ hc10 ?_
 refine Z6 ?_
 (refine Z1 ?_; refine Z4 ?_)
 have htl10 : (hd9.put 9 (.word y9)).tail = t := by rw [Z113]; exact htl9
 have hb10 : er10 ≤ 9223372036854775807 := by rw [← he10]; split <;> omega
 have hB10 : ∀ w, Mem w0 w (Bn9 ++ BB9) → Mem w0 w ((oi, blk (cr ++ ri) 25) :: B0) := fun w m => hB9 w m.appR
 generalize hgn10 : hd9.put 9 (.word y9) = hd10 at *
 generalize hbb10 : (Bn9 ++ BB9) = BB10 at *
 clear hgn10 hbb10 he10 hk9 hc10 hg9 hv9 hv9' hB9 htl9 hb9
 refine CW.mem (M' := (some b27, blk (rdC (oi.map fun k => ⟨k, 0, none⟩) its.length ci 10 er10) 106) :: (some b6, blk (hd10.C A10 c10).C 38) :: (some b2, blk (Hdr.zero.C none 0).C 38) :: (BB10 ++ N)) (fun w m => m.rot1) ?_
 have hs10 : slotL[10]? = some (.word 442) := rfl
 have hi10 : 10 < its.length := by omega
 have hx10 : its[10]? = some its[10] := List.getElem?_eq_getElem hi10
 rw [List.drop_eq_getElem_cons hi10, refL, hs10] at hp10
 obtain ⟨⟨f10, er11⟩, hr10, hp11⟩ := Option.bind_eq_some_iff.1 hp10
 dsimp only at hp11
 rw [refS] at hr10
 obtain ⟨⟨y10, k10⟩, hg10, hr10⟩ := Option.bind_eq_some_iff.1 hr10
 obtain ⟨hf10, he11⟩ := Prod.mk.inj (Zi hr10)
 dsimp only at hf10 he11
 subst hf10
 refine Z2 (Z0 (Z3 rfl) rfl ?_)
 refine Z12 Tryd.call51 rfl (rd19_small w0 (More w0 Φ ((oi, blk (cr ++ ri) 25) :: B0)) ((some b6, blk (hd10.C A10 c10).C 38) :: (some b2, blk (Hdr.zero.C none 0).C 38) :: (BB10 ++ N)) (fun w m => hΨ w (m.drop 2).appR ((hB10 w (m.drop 2).appL))) b27 (oi.map fun k => ⟨k, 0, none⟩) ci cr its 10 er10 its[10] y10 k10 hvi hri hx10 hg10) rfl rfl ?_; rintro _ _ ⟨Bn10, hk10, rfl, rfl⟩; rw [he11]; refine Z20 (M' := (some b6, blk (hd10.C A10 c10).C 38) :: (some b27, blk (rdC (oi.map fun k => ⟨k, 0, none⟩) its.length ci 11 er11) 106) :: (some b2, blk (Hdr.zero.C none 0).C 38) :: ((Bn10 ++ BB10) ++ N)) (fun w m => m.chunk [[(some b27, blk (rdC (oi.map fun k => ⟨k, 0, none⟩) its.length ci 11 er11) 106)], Bn10, [(some b6, blk (hd10.C A10 c10).C 38)], [(some b2, blk (Hdr.zero.C none 0).C 38)], BB10, N] [2, 0, 3, 1, 4, 5] rfl (by simp) (by simp)) ?_
 refine Z0 (Z30 rfl rfl rfl rfl) rfl ?_
 refine Z28 (SV.store rfl rfl rfl rfl rfl (by rw [Z111]; decide)) ?_; have hv10' := hv10.mono (Ψ := More w0 Φ (Bn10 ++ BB10)) (fun w q => ⟨q.1, q.2.appR⟩); obtain ⟨A11, c11, hc11, hv11⟩ := Wrote.put (Ψ := More w0 Φ (Bn10 ++ BB10)) hs10 (show Wrote _ (hd10.C A10 c10).C ((hd10.C A10 c10).C.set 442 (U64 y10)) (.word 442) (.word y10) from rfl) hv10'; refine OW.cells _ hc11 ?_
 refine Z6 ?_
 (refine Z1 ?_; refine Z4 ?_)
 have htl11 : (hd10.put 10 (.word y10)).tail = t := by rw [Z113]; exact htl10
 have hb11 : er11 ≤ 9223372036854775807 := by rw [← he11]; split <;> omega
 have hB11 : ∀ w, Mem w0 w (Bn10 ++ BB10) → Mem w0 w ((oi, blk (cr ++ ri) 25) :: B0) := fun w m => hB10 w m.appR
 generalize hgn11 : hd10.put 10 (.word y10) = hd11 at *
 generalize hbb11 : (Bn10 ++ BB10) = BB11 at *
 clear hgn11 hbb11 he11 hk10 hc11 hg10 hv10 hv10' hB10 htl10 hb10
 refine CW.mem (M' := (some b27, blk (rdC (oi.map fun k => ⟨k, 0, none⟩) its.length ci 11 er11) 106) :: (some b6, blk (hd11.C A11 c11).C 38) :: (some b2, blk (Hdr.zero.C none 0).C 38) :: (BB11 ++ N)) (fun w m => m.rot1) ?_
 have hs11 : slotL[11]? = some (.word 443) := rfl
 have hi11 : 11 < its.length := by omega
 have hx11 : its[11]? = some its[11] := List.getElem?_eq_getElem hi11
 rw [List.drop_eq_getElem_cons hi11, refL, hs11] at hp11
 obtain ⟨⟨f11, er12⟩, hr11, hp12⟩ := Option.bind_eq_some_iff.1 hp11
 dsimp only at hp12
 rw [refS] at hr11
 obtain ⟨⟨y11, k11⟩, hg11, hr11⟩ := Option.bind_eq_some_iff.1 hr11
 obtain ⟨hf11, he12⟩ := Prod.mk.inj (Zi hr11)
 dsimp only at hf11 he12
 subst hf11
 refine Z2 (Z0 (Z3 rfl) rfl ?_)
 refine Z12 Tryd.call51 rfl (rd19_small w0 (More w0 Φ ((oi, blk (cr ++ ri) 25) :: B0)) ((some b6, blk (hd11.C A11 c11).C 38) :: (some b2, blk (Hdr.zero.C none 0).C 38) :: (BB11 ++ N)) (fun w m => hΨ w (m.drop 2).appR ((hB11 w (m.drop 2).appL))) b27 (oi.map fun k => ⟨k, 0, none⟩) ci cr its 11 er11 its[11] y11 k11 hvi hri hx11 hg11) rfl rfl ?_; rintro _ _ ⟨Bn11, hk11, rfl, rfl⟩; rw [he12]; refine Z20 (M' := (some b6, blk (hd11.C A11 c11).C 38) :: (some b27, blk (rdC (oi.map fun k => ⟨k, 0, none⟩) its.length ci 12 er12) 106) :: (some b2, blk (Hdr.zero.C none 0).C 38) :: ((Bn11 ++ BB11) ++ N)) (fun w m => m.chunk [[(some b27, blk (rdC (oi.map fun k => ⟨k, 0, none⟩) its.length ci 12 er12) 106)], Bn11, [(some b6, blk (hd11.C A11 c11).C 38)], [(some b2, blk (Hdr.zero.C none 0).C 38)], BB11, N] [2, 0, 3, 1, 4, 5] rfl (by simp) (by simp)) ?_
 refine Z0 (Z30 rfl rfl rfl rfl) rfl ?_
 refine Z28 (SV.store rfl rfl rfl rfl rfl (by rw [Z111]; decide)) ?_; have hv11' := hv11.mono (Ψ := More w0 Φ (Bn11 ++ BB11)) (fun w q => ⟨q.1, q.2.appR⟩); obtain ⟨A12, c12, hc12, hv12⟩ := Wrote.put (Ψ := More w0 Φ (Bn11 ++ BB11)) hs11 (show Wrote _ (hd11.C A11 c11).C ((hd11.C A11 c11).C.set 443 (U64 y11)) (.word 443) (.word y11) from rfl) hv11'; refine OW.cells _ hc12 ?_
 refine Z6 ?_
 (refine Z1 ?_; refine Z4 ?_)
 have htl12 : (hd11.put 11 (.word y11)).tail = t := by rw [Z113]; exact htl11
 have hb12 : er12 ≤ 9223372036854775807 := by rw [← he12]; split <;> omega
 have hB12 : ∀ w, Mem w0 w (Bn11 ++ BB11) → Mem w0 w ((oi, blk (cr ++ ri) 25) :: B0) := fun w m => hB11 w m.appR
 generalize hgn12 : hd11.put 11 (.word y11) = hd12 at *
 generalize hbb12 : (Bn11 ++ BB11) = BB12 at *
 clear hgn12 hbb12 he12 hk11 hc12 hg11 hv11 hv11' hB11 htl11 hb11
 refine CW.mem (M' := (some b27, blk (rdC (oi.map fun k => ⟨k, 0, none⟩) its.length ci 12 er12) 106) :: (some b6, blk (hd12.C A12 c12).C 38) :: (some b2, blk (Hdr.zero.C none 0).C 38) :: (BB12 ++ N)) (fun w m => m.rot1) ?_
 have hs12 : slotL[12]? = some (.ext 444) := rfl
 have hi12 : 12 < its.length := by omega
 have hx12 : its[12]? = some its[12] := List.getElem?_eq_getElem hi12
 rw [List.drop_eq_getElem_cons hi12, refL, hs12] at hp12
 obtain ⟨⟨f12, er13⟩, hr12, hp13⟩ := Option.bind_eq_some_iff.1 hp12
 dsimp only at hp13
 rw [refS] at hr12
 obtain ⟨⟨y12, k12⟩, hg12, hr12⟩ := Option.bind_eq_some_iff.1 hr12
 obtain ⟨hf12, he13⟩ := Prod.mk.inj (Zi hr12)
 dsimp only at hf12 he13
 subst hf12
 refine Z2 (Z0 (Z3 rfl) rfl ?_)
 refine Z12 Tryd.call52 rfl (rd19_extra w0 (More w0 Φ ((oi, blk (cr ++ ri) 25) :: B0)) ((some b6, blk (hd12.C A12 c12).C 38) :: (some b2, blk (Hdr.zero.C none 0).C 38) :: (BB12 ++ N)) (fun w m => hΨ w (m.drop 2).appR ((hB12 w (m.drop 2).appL))) b27 (oi.map fun k => ⟨k, 0, none⟩) ci cr its 12 er12 its[12] y12 k12 hvi hri hx12 (by omega) hg12) rfl rfl ?_; rintro _ _ ⟨o12, cc12, rr12, Bn12, hk12, ow12, rfl, rfl⟩; rw [he13]; refine Z20 (M' := (some b6, blk (hd12.C A12 c12).C 38) :: (some b27, blk (rdC (oi.map fun k => ⟨k, 0, none⟩) its.length ci 13 er13) 106) :: (some b2, blk (Hdr.zero.C none 0).C 38) :: ((((o12, blk (u8s y12 ++ rr12) 5) :: Bn12) ++ BB12) ++ N)) (fun w m => m.chunk [[(some b27, blk (rdC (oi.map fun k => ⟨k, 0, none⟩) its.length ci 13 er13) 106)], [(o12, blk (u8s y12 ++ rr12) 5)], Bn12, [(some b6, blk (hd12.C A12 c12).C 38)], [(some b2, blk (Hdr.zero.C none 0).C 38)], BB12, N] [3, 0, 4, 1, 2, 5, 6] rfl (by simp) (by simp)) ?_
 refine Z0 (Z30 rfl rfl rfl rfl) rfl ?_
 refine Z28 (SV.store rfl rfl rfl rfl rfl (by rw [Z111]; decide)) ?_; have hv12' := hv12.mono (Ψ := More w0 Φ (((o12, blk (u8s y12 ++ rr12) 5) :: Bn12) ++ BB12)) (fun w q => ⟨q.1, q.2.appR⟩); obtain ⟨A13, c13, hc13, hv13⟩ := Wrote.put (Ψ := More w0 Φ (((o12, blk (u8s y12 ++ rr12) 5) :: Bn12) ++ BB12)) hs12 (show Wrote _ (hd12.C A12 c12).C ((hd12.C A12 c12).C.set 444 (sl o12 0 y12.length cc12)) (.ext 444) (.ext y12) from ⟨_, _, rfl, ow12.view (te := 5) (w0 := w0) (by decide) (fun w q => q.2.sublist (List.singleton_sublist.2 (List.mem_cons_self ..)))⟩) hv12'; refine OW.cells _ hc13 ?_
 refine Z6 ?_
 (refine Z1 ?_; refine Z4 ?_)
 have htl13 : (hd12.put 12 (.ext y12)).tail = t := by rw [Z113]; exact htl12
 have hb13 : er13 ≤ 9223372036854775807 := by rw [← he13]; (repeat' split) <;> omega
 have hB13 : ∀ w, Mem w0 w (((o12, blk (u8s y12 ++ rr12) 5) :: Bn12) ++ BB12) → Mem w0 w ((oi, blk (cr ++ ri) 25) :: B0) := fun w m => hB12 w m.appR
 generalize hgn13 : hd12.put 12 (.ext y12) = hd13 at *
 generalize hbb13 : (((o12, blk (u8s y12 ++ rr12) 5) :: Bn12) ++ BB12) = BB13 at *
 clear hgn13 hbb13 he13 hk12 hc13 hg12 hv12 hv12' hB12 htl12 hb12
 refine CW.mem (M' := (some b27, blk (rdC (oi.map fun k => ⟨k, 0, none⟩) its.length ci 13 er13) 106) :: (some b6, blk (hd13.C A13 c13).C 38) :: (some b2, blk (Hdr.zero.C none 0).C 38) :: (BB13 ++ N)) (fun w m => m.rot1) ?_
 have hs13 : slotL[13]? = some (.text 445 32) := rfl
 have hi13 : 13 < its.length := by omega
 have hx13 : its[13]? = some its[13] := List.getElem?_eq_getElem hi13
 rw [List.drop_eq_getElem_cons hi13, refL, hs13] at hp13
 obtain ⟨⟨f13, er14⟩, hr13, hp14⟩ := Option.bind_eq_some_iff.1 hp13
 dsimp only at hp14
 rw [refS] at hr13
 obtain ⟨⟨y13, k13⟩, hg13, hr13⟩ := Option.bind_eq_some_iff.1 hr13
 obtain ⟨hf13, he14⟩ := Prod.mk.inj (Zi hr13)
 dsimp only at hf13 he14
 subst hf13
 have hfl13 : ((if y13.length = 32 then y13 else List.replicate 32 0#8)).length = 32 := by split <;> simp_all
 refine Z2 (Z0 (Z3 rfl) rfl ?_)
 refine Z12 Tryd.call48 rfl (rd19_hash w0 (More w0 Φ ((oi, blk (cr ++ ri) 25) :: B0)) ((some b6, blk (hd13.C A13 c13).C 38) :: (some b2, blk (Hdr.zero.C none 0).C 38) :: (BB13 ++ N)) (fun w m => hΨ w (m.drop 2).appR ((hB13 w (m.drop 2).appL))) b27 (oi.map fun k => ⟨k, 0, none⟩) ci cr its 13 er13 its[13] y13 k13 hvi hri hx13 hg13) rfl rfl ?_; rintro _ _ ⟨Bn13, hk13, rfl, rfl⟩; rw [he14]; refine Z20 (M' := (some b6, blk (hd13.C A13 c13).C 38) :: (some b27, blk (rdC (oi.map fun k => ⟨k, 0, none⟩) its.length ci 14 er14) 106) :: (some b2, blk (Hdr.zero.C none 0).C 38) :: ((Bn13 ++ BB13) ++ N)) (fun w m => m.chunk [[(some b27, blk (rdC (oi.map fun k => ⟨k, 0, none⟩) its.length ci 14 er14) 106)], Bn13, [(some b6, blk (hd13.C A13 c13).C 38)], [(some b2, blk (Hdr.zero.C none 0).C 38)], BB13, N] [2, 0, 3, 1, 4, 5] rfl (by simp) (by simp)) ?_
 refine Z0 (Z30 rfl rfl rfl rfl) rfl ?_
 refine Z28 (Z133 rfl rfl rfl (Z123 _) rfl (by rw [Z100, hfl13]; rfl) (by rw [Z111]; decide)) ?_; have hv13' := hv13.mono (Ψ := More w0 Φ (Bn13 ++ BB13)) (fun w q => ⟨q.1, q.2.appR⟩); obtain ⟨A14, c14, hc14, hv14⟩ := Wrote.put (Ψ := More w0 Φ (Bn13 ++ BB13)) hs13 (show Wrote _ (hd13.C A13 c13).C (spl (hd13.C A13 c13).C 445 (u8s (if y13.length = 32 then y13 else List.replicate 32 0#8))) (.text 445 32) (.text (if y13.length = 32 then y13 else List.replicate 32 0#8)) from ⟨Nat.le_of_eq hfl13, rfl⟩) hv13'; refine OW.cells _ hc14 ?_
 refine Z6 ?_
 (refine Z1 ?_; refine Z4 ?_)
 have htl14 : (hd13.put 13 (.text (if y13.length = 32 then y13 else List.replicate 32 0#8))).tail = t := by rw [Z113]; exact htl13
 have hb14 : er14 ≤ 9223372036854775807 := by rw [← he14]; split <;> omega
 have hB14 : ∀ w, Mem w0 w (Bn13 ++ BB13) → Mem w0 w ((oi, blk (cr ++ ri) 25) :: B0) := fun w m => hB13 w m.appR
 generalize hgn14 : hd13.put 13 (.text (if y13.length = 32 then y13 else List.replicate 32 0#8)) = hd14 at *
 generalize hbb14 : (Bn13 ++ BB13) = BB14 at *
 clear hgn14 hbb14 he14 hk13 hc14 hg13 hv13 hv13' hB13 htl13 hb13 hfl13
 refine CW.mem (M' := (some b27, blk (rdC (oi.map fun k => ⟨k, 0, none⟩) its.length ci 14 er14) 106) :: (some b6, blk (hd14.C A14 c14).C 38) :: (some b2, blk (Hdr.zero.C none 0).C 38) :: (BB14 ++ N)) (fun w m => m.rot1) ?_
 have hs14 : slotL[14]? = some (.text 477 8) := rfl
 have hi14 : 14 < its.length := by omega
 have hx14 : its[14]? = some its[14] := List.getElem?_eq_getElem hi14
 rw [List.drop_eq_getElem_cons hi14, refL, hs14] at hp14
 obtain ⟨⟨f14, er15⟩, hr14, hp15⟩ := Option.bind_eq_some_iff.1 hp14
 dsimp only at hp15
 rw [refS] at hr14
 obtain ⟨⟨y14, k14⟩, hg14, hr14⟩ := Option.bind_eq_some_iff.1 hr14
 obtain ⟨hf14, he15⟩ := Prod.mk.inj (Zi hr14)
 dsimp only at hf14 he15
 subst hf14
 have hfl14 : ((if y14.length = 8 then y14 else List.replicate 8 0#8)).length = 8 := by split <;> simp_all
 refine Z132 ((some b2, blk (Hdr.zero.C none 0).C 38) :: (BB14 ++ N)) [3, 4] (fun w m => m.drop 2) mixed (by kernel_rfl) (Z10 0 rfl (by kernel_rfl) rfl (Z30 rfl rfl rfl rfl) rfl (Z10 1 rfl (by kernel_rfl) rfl (Z126 rfl rfl rfl) rfl (XW.slot (sl (some b6) 477 8 8) rfl (Z10 2 rfl (by kernel_rfl) rfl (Z3 rfl) rfl ?_))))
 refine XW.callE 3 rfl (by kernel_rfl) rfl Tryd.call49 rfl (fun N2 h2 => rd19_fixed w0 (More w0 Φ ((oi, blk (cr ++ ri) 25) :: B0)) N2 (fun w m => by have m := h2 w m; exact hΨ w (m.drop 2).appR (hB14 w (m.drop 2).appL)) b27 (oi.map fun k => ⟨k, 0, none⟩) ci cr its 14 er14 8 its[14] y14 k14 hvi hri hx14 (by decide) hg14) (fun w m => m.tail) rfl ?_
 rintro _ _ ⟨o14, cc14, rr14, Bn14, hk14, ow14, rfl, rfl⟩
 rw [he15]
 refine Z19 (M' := (some b6, blk (hd14.C A14 c14).C 38) :: (o14, blk (u8s (if y14.length = 8 then y14 else List.replicate 8 0#8) ++ rr14) 5) :: (some b27, blk (rdC (oi.map fun k => ⟨k, 0, none⟩) its.length ci 15 er15) 106) :: (some b2, blk (Hdr.zero.C none 0).C 38) :: ((Bn14 ++ BB14) ++ N)) (fun w m => m.chunk [[(some b27, blk (rdC (oi.map fun k => ⟨k, 0, none⟩) its.length ci 15 er15) 106)], [(o14, blk (u8s (if y14.length = 8 then y14 else List.replicate 8 0#8) ++ rr14) 5)], Bn14, [(some b6, blk (hd14.C A14 c14).C 38)], [(some b2, blk (Hdr.zero.C none 0).C 38)], BB14, N] [3, 1, 0, 4, 2, 5, 6] rfl (by simp) (by simp)) (fun w m => m.chunk [[(some b6, blk (hd14.C A14 c14).C 38)], [(o14, blk (u8s (if y14.length = 8 then y14 else List.replicate 8 0#8) ++ rr14) 5)], [(some b27, blk (rdC (oi.map fun k => ⟨k, 0, none⟩) its.length ci 15 er15) 106)], [(some b2, blk (Hdr.zero.C none 0).C 38)], Bn14, BB14, N] [3, 5, 6] rfl (by simp) (by simp)) ?_
 refine XW.copyS 4 (s := 1) rfl (by kernel_rfl) rfl rfl rfl rfl (fun h => nomatch h) (by rw [Z111]; decide) (fun w m => m.rd0 (List.Mem.tail _ Zh) (fun h => ow14.nilc (by decide) h)) (by rw [Z100, hfl14]) (Z123 _) (ow14.zeroO (by decide)) (fun w m => m.chunk [[(o14, blk (u8s (if y14.length = 8 then y14 else List.replicate 8 0#8) ++ rr14) 5)], [(some b27, blk (rdC (oi.map fun k => ⟨k, 0, none⟩) its.length ci 15 er15) 106)], [(some b2, blk (Hdr.zero.C none 0).C 38)], Bn14, BB14, N] [2, 4, 5] rfl (by simp) (by simp)) rfl ?_
 rw [List.take_of_length_le (by rw [Z100, hfl14]; decide)]
 have hv14' := hv14.mono (Ψ := More w0 Φ (Bn14 ++ BB14)) (fun w q => ⟨q.1, q.2.appR⟩)
 obtain ⟨A15, c15, hc15, hv15⟩ := Wrote.put (Ψ := More w0 Φ (Bn14 ++ BB14)) hs14 (show Wrote _ (hd14.C A14 c14).C (spl (hd14.C A14 c14).C 477 (u8s (if y14.length = 8 then y14 else List.replicate 8 0#8))) (.text 477 8) (.text (if y14.length = 8 then y14 else List.replicate 8 0#8)) from ⟨Nat.le_of_eq hfl14, rfl⟩) hv14'
 refine XW.cells _ hc15 (XW.nil (by kernel_rfl) (Z1 ?_))
 have htl15 : (hd14.put 14 (.text (if y14.length = 8 then y14 else List.replicate 8 0#8))).tail = t := by rw [Z113]; exact htl14
 have hb15 : er15 ≤ 9223372036854775807 := by rw [← he15]; split <;> omega
 have hB15 : ∀ w, Mem w0 w (Bn14 ++ BB14) → Mem w0 w ((oi, blk (cr ++ ri) 25) :: B0) := fun w m => hB14 w m.appR
 generalize hgn15 : hd14.put 14 (.text (if y14.length = 8 then y14 else List.replicate 8 0#8)) = hd15 at *
 generalize hbb15 : (Bn14 ++ BB14) = BB15 at *
 clear hgn15 hbb15 he15 hk14 hc15 hg14 hv14 hv14' hB14 htl14 hb14 hfl14
 refine CW.mem (M' := (some b27, blk (rdC (oi.map fun k => ⟨k, 0, none⟩) its.length ci 15 er15) 106) :: (some b6, blk (hd15.C A15 c15).C 38) :: (some b2, blk (Hdr.zero.C none 0).C 38) :: (BB15 ++ N)) (fun w m => m.pick [2, 0, 3] 4 rfl rfl) ?_
 obtain ⟨n1, n2, n3, n4, n5, n6, n7, n8⟩ := cnt_at ht0 ht4
 rw [hct] at n1 n2 n3 n4 n5 n6 n7 n8
 have e15 : min its.length 15 = 15 := by omega
 refine Z4 ?_
 refine Z120 (fun L' M' => ∃ (hd : Hdr) (er : Nat) (A : Option Addr) (c : Nat) (BB : List Ent), refL (min its.length 16) (its.drop (min its.length 16)) hd er = some (hh3, ee3) ∧ hd.tail = t ∧ er ≤ 9223372036854775807 ∧ (∀ w, Mem w0 w BB → Mem w0 w ((oi, blk (cr ++ ri) 25) :: B0)) ∧ View (More w0 Φ BB) A hd.extra.length c 1 (u8s hd.extra) ∧ L' = [(2, ptr (some b2) 0), (6, ptr (some b6) 0), (7, ptr (some b27) 0)] ∧ M' = (some b27, blk (rdC (oi.map fun k => ⟨k, 0, none⟩) its.length ci (min its.length 16) er) 106) :: (some b6, blk (hd.C A c).C 38) :: (some b2, blk (Hdr.zero.C none 0).C 38) :: (BB ++ N)) ?_ ?_
 rotate_left
 ·have hct15 : (hd15.C A15 c15).C[485]? = some (.int .i64 t) := by rw [← htl15]; exact Z143 _
  refine Z4 (Z2 (Z0 (Z30 rfl rfl rfl rfl) rfl (Z0 (Z29 rfl (List.Mem.tail _ Zh) rfl rfl rfl hct15) rfl (Z0 (RV.geq rfl rfl) rfl (Z6 (Z1 ?_))))))
  by_cases hq15 : 1 ≤ t
  ·refine Z13 rfl (decide_eq_true (by omega)) ?_
   have em15 : min its.length 15 = 15 := by omega
   have hs15 : slotL[15]? = some (.big 486) := rfl
   have hi15 : 15 < its.length := by omega
   have hx15 : its[15]? = some its[15] := List.getElem?_eq_getElem hi15
   rw [List.drop_eq_getElem_cons hi15, refL, hs15] at hp15
   obtain ⟨⟨f15, er16⟩, hr15, hp16⟩ := Option.bind_eq_some_iff.1 hp15
   dsimp only at hp16
   rw [refS] at hr15
   obtain ⟨⟨y15, k15⟩, hg15, hr15⟩ := Option.bind_eq_some_iff.1 hr15
   obtain ⟨hf15, he16⟩ := Prod.mk.inj (Zi hr15)
   dsimp only at hf15 he16
   subst hf15
   refine Z2 (Z0 (Z3 rfl) rfl ?_)
   refine Z12 Tryd.call50 rfl (rd19_number w0 (More w0 Φ ((oi, blk (cr ++ ri) 25) :: B0)) ((some b6, blk (hd15.C A15 c15).C 38) :: (some b2, blk (Hdr.zero.C none 0).C 38) :: (BB15 ++ N)) (fun w m => hΨ w (m.drop 2).appR ((hB15 w (m.drop 2).appL))) b27 (oi.map fun k => ⟨k, 0, none⟩) ci cr its 15 er15 its[15] y15 k15 hvi hri hx15 hg15) rfl rfl ?_; rintro _ _ ⟨Bn15, hk15, rfl, rfl⟩; rw [he16]; refine Z20 (M' := (some b6, blk (hd15.C A15 c15).C 38) :: (some b27, blk (rdC (oi.map fun k => ⟨k, 0, none⟩) its.length ci 16 er16) 106) :: (some b2, blk (Hdr.zero.C none 0).C 38) :: ((Bn15 ++ BB15) ++ N)) (fun w m => m.chunk [[(some b27, blk (rdC (oi.map fun k => ⟨k, 0, none⟩) its.length ci 16 er16) 106)], Bn15, [(some b6, blk (hd15.C A15 c15).C 38)], [(some b2, blk (Hdr.zero.C none 0).C 38)], BB15, N] [2, 0, 3, 1, 4, 5] rfl (by simp) (by simp)) ?_
   refine Z0 (Z30 rfl rfl rfl rfl) rfl ?_
   refine Z28 (Z133 rfl rfl rfl (Z115 _) rfl ((Z101 _).trans Zv) (by rw [Z111]; decide)) ?_; have hv15' := hv15.mono (Ψ := More w0 Φ (Bn15 ++ BB15)) (fun w q => ⟨q.1, q.2.appR⟩); obtain ⟨A16, c16, hc16, hv16⟩ := Wrote.put (Ψ := More w0 Φ (Bn15 ++ BB15)) hs15 (show Wrote _ (hd15.C A15 c15).C (spl (hd15.C A15 c15).C 486 (u64s y15.toList)) (.big 486) (.big y15) from rfl) hv15'; refine OW.cells _ hc16 ?_
   refine Z6 ?_
   have htl16 : (hd15.put 15 (.big y15)).tail = t := by rw [Z113]; exact htl15
   have hb16 : er16 ≤ 9223372036854775807 := by rw [← he16]; split <;> omega
   have hB16 : ∀ w, Mem w0 w (Bn15 ++ BB15) → Mem w0 w ((oi, blk (cr ++ ri) 25) :: B0) := fun w m => hB15 w m.appR
   generalize hgn16 : hd15.put 15 (.big y15) = hd16 at *
   generalize hbb16 : (Bn15 ++ BB15) = BB16 at *
   clear hgn16 hbb16 he16 hk15 hc16 hg15 hv15 hv15' hB15 htl15 hb15
   have eq16 : min its.length 16 = 16 := by omega
   exact QW.join ⟨hd16, er16, A16, c16, BB16, by rw [eq16]; exact hp16, htl16, hb16, hB16, hv16, rfl, rfl⟩ ⟨rfl, rfl, rfl, trivial⟩ (fun w m => by rw [eq16]; exact m.rot1)
  ·refine Z14 rfl (decide_eq_false (by omega)) (CW.skip ?_)
   have en16 : min its.length 16 = 15 := by omega
   exact QW.join ⟨hd15, er15, A15, c15, BB15, by rw [en16]; exact hp15, htl15, hb15, hB15, hv15, rfl, rfl⟩ ⟨rfl, rfl, rfl, trivial⟩ (fun w m => by rw [en16]; exact m)
 rintro L' M' ⟨hd16, er16, A16, c16, BB16, hp16, htl16, hb16, hB16, hv16, rfl, rfl⟩
 refine Z1 (Z4 ?_)
 refine Z120 (fun L' M' => ∃ (hd : Hdr) (er : Nat) (A : Option Addr) (c : Nat) (BB : List Ent), refL (min its.length 17) (its.drop (min its.length 17)) hd er = some (hh3, ee3) ∧ hd.tail = t ∧ er ≤ 9223372036854775807 ∧ (∀ w, Mem w0 w BB → Mem w0 w ((oi, blk (cr ++ ri) 25) :: B0)) ∧ View (More w0 Φ BB) A hd.extra.length c 1 (u8s hd.extra) ∧ L' = [(2, ptr (some b2) 0), (6, ptr (some b6) 0), (7, ptr (some b27) 0)] ∧ M' = (some b27, blk (rdC (oi.map fun k => ⟨k, 0, none⟩) its.length ci (min its.length 17) er) 106) :: (some b6, blk (hd.C A c).C 38) :: (some b2, blk (Hdr.zero.C none 0).C 38) :: (BB ++ N)) ?_ ?_
 rotate_left
 ·have hct16 : (hd16.C A16 c16).C[485]? = some (.int .i64 t) := by rw [← htl16]; exact Z143 _
  refine Z4 (Z2 (Z0 (Z30 rfl rfl rfl rfl) rfl (Z0 (Z29 rfl (List.Mem.tail _ Zh) rfl rfl rfl hct16) rfl (Z0 (RV.geq rfl rfl) rfl (Z6 (Z1 ?_))))))
  by_cases hq16 : 2 ≤ t
  ·refine Z13 rfl (decide_eq_true (by omega)) ?_
   have em16 : min its.length 16 = 16 := by omega
   rw [em16] at hp16 ⊢
   have hs16 : slotL[16]? = some (.text 490 32) := rfl
   have hi16 : 16 < its.length := by omega
   have hx16 : its[16]? = some its[16] := List.getElem?_eq_getElem hi16
   rw [List.drop_eq_getElem_cons hi16, refL, hs16] at hp16
   obtain ⟨⟨f16, er17⟩, hr16, hp17⟩ := Option.bind_eq_some_iff.1 hp16
   dsimp only at hp17
   rw [refS] at hr16
   obtain ⟨⟨y16, k16⟩, hg16, hr16⟩ := Option.bind_eq_some_iff.1 hr16
   obtain ⟨hf16, he17⟩ := Prod.mk.inj (Zi hr16)
   dsimp only at hf16 he17
   subst hf16
   have hfl16 : ((if y16.length = 32 then y16 else List.replicate 32 0#8)).length = 32 := by split <;> simp_all
   refine Z2 (Z0 (Z3 rfl) rfl ?_)
   refine Z12 Tryd.call48 rfl (rd19_hash w0 (More w0 Φ ((oi, blk (cr ++ ri) 25) :: B0)) ((some b6, blk (hd16.C A16 c16).C 38) :: (some b2, blk (Hdr.zero.C none 0).C 38) :: (BB16 ++ N)) (fun w m => hΨ w (m.drop 2).appR ((hB16 w (m.drop 2).appL))) b27 (oi.map fun k => ⟨k, 0, none⟩) ci cr its 16 er16 its[16] y16 k16 hvi hri hx16 hg16) rfl rfl ?_; rintro _ _ ⟨Bn16, hk16, rfl, rfl⟩; rw [he17]; refine Z20 (M' := (some b6, blk (hd16.C A16 c16).C 38) :: (some b27, blk (rdC (oi.map fun k => ⟨k, 0, none⟩) its.length ci 17 er17) 106) :: (some b2, blk (Hdr.zero.C none 0).C 38) :: ((Bn16 ++ BB16) ++ N)) (fun w m => m.chunk [[(some b27, blk (rdC (oi.map fun k => ⟨k, 0, none⟩) its.length ci 17 er17) 106)], Bn16, [(some b6, blk (hd16.C A16 c16).C 38)], [(some b2, blk (Hdr.zero.C none 0).C 38)], BB16, N] [2, 0, 3, 1, 4, 5] rfl (by simp) (by simp)) ?_
   refine Z0 (Z30 rfl rfl rfl rfl) rfl ?_
   refine Z28 (Z133 rfl rfl rfl (Z123 _) rfl (by rw [Z100, hfl16]; rfl) (by rw [Z111]; decide)) ?_; have hv16' := hv16.mono (Ψ := More w0 Φ (Bn16 ++ BB16)) (fun w q => ⟨q.1, q.2.appR⟩); obtain ⟨A17, c17, hc17, hv17⟩ := Wrote.put (Ψ := More w0 Φ (Bn16 ++ BB16)) hs16 (show Wrote _ (hd16.C A16 c16).C (spl (hd16.C A16 c16).C 490 (u8s (if y16.length = 32 then y16 else List.replicate 32 0#8))) (.text 490 32) (.text (if y16.length = 32 then y16 else List.replicate 32 0#8)) from ⟨Nat.le_of_eq hfl16, rfl⟩) hv16'; refine OW.cells _ hc17 ?_
   refine Z6 ?_
   have htl17 : (hd16.put 16 (.text (if y16.length = 32 then y16 else List.replicate 32 0#8))).tail = t := by rw [Z113]; exact htl16
   have hb17 : er17 ≤ 9223372036854775807 := by rw [← he17]; split <;> omega
   have hB17 : ∀ w, Mem w0 w (Bn16 ++ BB16) → Mem w0 w ((oi, blk (cr ++ ri) 25) :: B0) := fun w m => hB16 w m.appR
   generalize hgn17 : hd16.put 16 (.text (if y16.length = 32 then y16 else List.replicate 32 0#8)) = hd17 at *
   generalize hbb17 : (Bn16 ++ BB16) = BB17 at *
   clear hgn17 hbb17 he17 hk16 hc17 hg16 hv16 hv16' hB16 htl16 hb16 hfl16
   have eq17 : min its.length 17 = 17 := by omega
   exact QW.join ⟨hd17, er17, A17, c17, BB17, by rw [eq17]; exact hp17, htl17, hb17, hB17, hv17, rfl, rfl⟩ ⟨rfl, rfl, rfl, trivial⟩ (fun w m => by rw [eq17]; exact m.rot1)
  ·refine Z14 rfl (decide_eq_false (by omega)) (CW.skip ?_)
   have en17 : min its.length 17 = min its.length 16 := by omega
   exact QW.join ⟨hd16, er16, A16, c16, BB16, by rw [en17]; exact hp16, htl16, hb16, hB16, hv16, rfl, rfl⟩ ⟨rfl, rfl, rfl, trivial⟩ (fun w m => by rw [en17]; exact m)
 rintro L' M' ⟨hd17, er17, A17, c17, BB17, hp17, htl17, hb17, hB17, hv17, rfl, rfl⟩
 refine Z1 (Z4 ?_)
 refine Z120 (fun L' M' => ∃ (hd : Hdr) (er : Nat) (A : Option Addr) (c : Nat) (BB : List Ent), refL (min its.length 20) (its.drop (min its.length 20)) hd er = some (hh3, ee3) ∧ hd.tail = t ∧ er ≤ 9223372036854775807 ∧ (∀ w, Mem w0 w BB → Mem w0 w ((oi, blk (cr ++ ri) 25) :: B0)) ∧ View (More w0 Φ BB) A hd.extra.length c 1 (u8s hd.extra) ∧ L' = [(2, ptr (some b2) 0), (6, ptr (some b6) 0), (7, ptr (some b27) 0)] ∧ M' = (some b27, blk (rdC (oi.map fun k => ⟨k, 0, none⟩) its.length ci (min its.length 20) er) 106) :: (some b6, blk (hd.C A c).C 38) :: (some b2, blk (Hdr.zero.C none 0).C 38) :: (BB ++ N)) ?_ ?_
 rotate_left
 ·have hct17 : (hd17.C A17 c17).C[485]? = some (.int .i64 t) := by rw [← htl17]; exact Z143 _
  refine Z4 (Z2 (Z0 (Z30 rfl rfl rfl rfl) rfl (Z0 (Z29 rfl (List.Mem.tail _ Zh) rfl rfl rfl hct17) rfl (Z0 (RV.geq rfl rfl) rfl (Z6 (Z1 ?_))))))
  by_cases hq17 : 3 ≤ t
  ·refine Z13 rfl (decide_eq_true (by omega)) ?_
   have em17 : min its.length 17 = 17 := by omega
   rw [em17] at hp17 ⊢
   have hs17 : slotL[17]? = some (.word 522) := rfl
   have hi17 : 17 < its.length := by omega
   have hx17 : its[17]? = some its[17] := List.getElem?_eq_getElem hi17
   rw [List.drop_eq_getElem_cons hi17, refL, hs17] at hp17
   obtain ⟨⟨f17, er18⟩, hr17, hp18⟩ := Option.bind_eq_some_iff.1 hp17
   dsimp only at hp18
   rw [refS] at hr17
   obtain ⟨⟨y17, k17⟩, hg17, hr17⟩ := Option.bind_eq_some_iff.1 hr17
   obtain ⟨hf17, he18⟩ := Prod.mk.inj (Zi hr17)
   dsimp only at hf17 he18
   subst hf17
   refine Z4 (Z2 (Z0 (Z3 rfl) rfl ?_))
   refine Z12 Tryd.call51 rfl (rd19_small w0 (More w0 Φ ((oi, blk (cr ++ ri) 25) :: B0)) ((some b6, blk (hd17.C A17 c17).C 38) :: (some b2, blk (Hdr.zero.C none 0).C 38) :: (BB17 ++ N)) (fun w m => hΨ w (m.drop 2).appR ((hB17 w (m.drop 2).appL))) b27 (oi.map fun k => ⟨k, 0, none⟩) ci cr its 17 er17 its[17] y17 k17 hvi hri hx17 hg17) rfl rfl ?_; rintro _ _ ⟨Bn17, hk17, rfl, rfl⟩; rw [he18]; refine Z20 (M' := (some b6, blk (hd17.C A17 c17).C 38) :: (some b27, blk (rdC (oi.map fun k => ⟨k, 0, none⟩) its.length ci 18 er18) 106) :: (some b2, blk (Hdr.zero.C none 0).C 38) :: ((Bn17 ++ BB17) ++ N)) (fun w m => m.chunk [[(some b27, blk (rdC (oi.map fun k => ⟨k, 0, none⟩) its.length ci 18 er18) 106)], Bn17, [(some b6, blk (hd17.C A17 c17).C 38)], [(some b2, blk (Hdr.zero.C none 0).C 38)], BB17, N] [2, 0, 3, 1, 4, 5] rfl (by simp) (by simp)) ?_
   refine Z0 (Z30 rfl rfl rfl rfl) rfl ?_
   refine Z28 (SV.store rfl rfl rfl rfl rfl (by rw [Z111]; decide)) ?_; have hv17' := hv17.mono (Ψ := More w0 Φ (Bn17 ++ BB17)) (fun w q => ⟨q.1, q.2.appR⟩); obtain ⟨A18, c18, hc18, hv18⟩ := Wrote.put (Ψ := More w0 Φ (Bn17 ++ BB17)) hs17 (show Wrote _ (hd17.C A17 c17).C ((hd17.C A17 c17).C.set 522 (U64 y17)) (.word 522) (.word y17) from rfl) hv17'; refine OW.cells _ hc18 ?_
   refine Z6 ?_
   (refine Z1 ?_; refine Z4 ?_)
   have htl18 : (hd17.put 17 (.word y17)).tail = t := by rw [Z113]; exact htl17
   have hb18 : er18 ≤ 9223372036854775807 := by rw [← he18]; split <;> omega
   have hB18 : ∀ w, Mem w0 w (Bn17 ++ BB17) → Mem w0 w ((oi, blk (cr ++ ri) 25) :: B0) := fun w m => hB17 w m.appR
   generalize hgn18 : hd17.put 17 (.word y17) = hd18 at *
   generalize hbb18 : (Bn17 ++ BB17) = BB18 at *
   clear hgn18 hbb18 he18 hk17 hc18 hg17 hv17 hv17' hB17 htl17 hb17
   refine CW.mem (M' := (some b27, blk (rdC (oi.map fun k => ⟨k, 0, none⟩) its.length ci 18 er18) 106) :: (some b6, blk (hd18.C A18 c18).C 38) :: (some b2, blk (Hdr.zero.C none 0).C 38) :: (BB18 ++ N)) (fun w m => m.rot1) ?_
   have hs18 : slotL[18]? = some (.word 523) := rfl
   have hi18 : 18 < its.length := by omega
   have hx18 : its[18]? = some its[18] := List.getElem?_eq_getElem hi18
   rw [List.drop_eq_getElem_cons hi18, refL, hs18] at hp18
   obtain ⟨⟨f18, er19⟩, hr18, hp19⟩ := Option.bind_eq_some_iff.1 hp18
   dsimp only at hp19
   rw [refS] at hr18
   obtain ⟨⟨y18, k18⟩, hg18, hr18⟩ := Option.bind_eq_some_iff.1 hr18
   obtain ⟨hf18, he19⟩ := Prod.mk.inj (Zi hr18)
   dsimp only at hf18 he19
   subst hf18
   refine Z2 (Z0 (Z3 rfl) rfl ?_)
   refine Z12 Tryd.call51 rfl (rd19_small w0 (More w0 Φ ((oi, blk (cr ++ ri) 25) :: B0)) ((some b6, blk (hd18.C A18 c18).C 38) :: (some b2, blk (Hdr.zero.C none 0).C 38) :: (BB18 ++ N)) (fun w m => hΨ w (m.drop 2).appR ((hB18 w (m.drop 2).appL))) b27 (oi.map fun k => ⟨k, 0, none⟩) ci cr its 18 er18 its[18] y18 k18 hvi hri hx18 hg18) rfl rfl ?_; rintro _ _ ⟨Bn18, hk18, rfl, rfl⟩; rw [he19]; refine Z20 (M' := (some b6, blk (hd18.C A18 c18).C 38) :: (some b27, blk (rdC (oi.map fun k => ⟨k, 0, none⟩) its.length ci 19 er19) 106) :: (some b2, blk (Hdr.zero.C none 0).C 38) :: ((Bn18 ++ BB18) ++ N)) (fun w m => m.chunk [[(some b27, blk (rdC (oi.map fun k => ⟨k, 0, none⟩) its.length ci 19 er19) 106)], Bn18, [(some b6, blk (hd18.C A18 c18).C 38)], [(some b2, blk (Hdr.zero.C none 0).C 38)], BB18, N] [2, 0, 3, 1, 4, 5] rfl (by simp) (by simp)) ?_
   refine Z0 (Z30 rfl rfl rfl rfl) rfl ?_
   refine Z28 (SV.store rfl rfl rfl rfl rfl (by rw [Z111]; decide)) ?_; have hv18' := hv18.mono (Ψ := More w0 Φ (Bn18 ++ BB18)) (fun w q => ⟨q.1, q.2.appR⟩); obtain ⟨A19, c19, hc19, hv19⟩ := Wrote.put (Ψ := More w0 Φ (Bn18 ++ BB18)) hs18 (show Wrote _ (hd18.C A18 c18).C ((hd18.C A18 c18).C.set 523 (U64 y18)) (.word 523) (.word y18) from rfl) hv18'; refine OW.cells _ hc19 ?_
   refine Z6 (Z1 ?_)
   have htl19 : (hd18.put 18 (.word y18)).tail = t := by rw [Z113]; exact htl18
   have hb19 : er19 ≤ 9223372036854775807 := by rw [← he19]; split <;> omega
   have hB19 : ∀ w, Mem w0 w (Bn18 ++ BB18) → Mem w0 w ((oi, blk (cr ++ ri) 25) :: B0) := fun w m => hB18 w m.appR
   generalize hgn19 : hd18.put 18 (.word y18) = hd19 at *
   generalize hbb19 : (Bn18 ++ BB18) = BB19 at *
   clear hgn19 hbb19 he19 hk18 hc19 hg18 hv18 hv18' hB18 htl18 hb18
   refine CW.mem (M' := (some b27, blk (rdC (oi.map fun k => ⟨k, 0, none⟩) its.length ci 19 er19) 106) :: (some b6, blk (hd19.C A19 c19).C 38) :: (some b2, blk (Hdr.zero.C none 0).C 38) :: (BB19 ++ N)) (fun w m => m.rot1) ?_
   have hs19 : slotL[19]? = some (.text 524 32) := rfl
   have hi19 : 19 < its.length := by omega
   have hx19 : its[19]? = some its[19] := List.getElem?_eq_getElem hi19
   rw [List.drop_eq_getElem_cons hi19, refL, hs19] at hp19
   obtain ⟨⟨f19, er20⟩, hr19, hp20⟩ := Option.bind_eq_some_iff.1 hp19
   dsimp only at hp20
   rw [refS] at hr19
   obtain ⟨⟨y19, k19⟩, hg19, hr19⟩ := Option.bind_eq_some_iff.1 hr19
   obtain ⟨hf19, he20⟩ := Prod.mk.inj (Zi hr19)
   dsimp only at hf19 he20
   subst hf19
   have hfl19 : ((if y19.length = 32 then y19 else List.replicate 32 0#8)).length = 32 := by split <;> simp_all
   refine Z2 (Z0 (Z3 rfl) rfl ?_)
   refine Z12 Tryd.call48 rfl (rd19_hash w0 (More w0 Φ ((oi, blk (cr ++ ri) 25) :: B0)) ((some b6, blk (hd19.C A19 c19).C 38) :: (some b2, blk (Hdr.zero.C none 0).C 38) :: (BB19 ++ N)) (fun w m => hΨ w (m.drop 2).appR ((hB19 w (m.drop 2).appL))) b27 (oi.map fun k => ⟨k, 0, none⟩) ci cr its 19 er19 its[19] y19 k19 hvi hri hx19 hg19) rfl rfl ?_; rintro _ _ ⟨Bn19, hk19, rfl, rfl⟩; rw [he20]; refine Z20 (M' := (some b6, blk (hd19.C A19 c19).C 38) :: (some b27, blk (rdC (oi.map fun k => ⟨k, 0, none⟩) its.length ci 20 er20) 106) :: (some b2, blk (Hdr.zero.C none 0).C 38) :: ((Bn19 ++ BB19) ++ N)) (fun w m => m.chunk [[(some b27, blk (rdC (oi.map fun k => ⟨k, 0, none⟩) its.length ci 20 er20) 106)], Bn19, [(some b6, blk (hd19.C A19 c19).C 38)], [(some b2, blk (Hdr.zero.C none 0).C 38)], BB19, N] [2, 0, 3, 1, 4, 5] rfl (by simp) (by simp)) ?_
   refine Z0 (Z30 rfl rfl rfl rfl) rfl ?_
   refine Z28 (Z133 rfl rfl rfl (Z123 _) rfl (by rw [Z100, hfl19]; rfl) (by rw [Z111]; decide)) ?_; have hv19' := hv19.mono (Ψ := More w0 Φ (Bn19 ++ BB19)) (fun w q => ⟨q.1, q.2.appR⟩); obtain ⟨A20, c20, hc20, hv20⟩ := Wrote.put (Ψ := More w0 Φ (Bn19 ++ BB19)) hs19 (show Wrote _ (hd19.C A19 c19).C (spl (hd19.C A19 c19).C 524 (u8s (if y19.length = 32 then y19 else List.replicate 32 0#8))) (.text 524 32) (.text (if y19.length = 32 then y19 else List.replicate 32 0#8)) from ⟨Nat.le_of_eq hfl19, rfl⟩) hv19'; refine OW.cells _ hc20 ?_
   refine Z6 ?_
   have htl20 : (hd19.put 19 (.text (if y19.length = 32 then y19 else List.replicate 32 0#8))).tail = t := by rw [Z113]; exact htl19
   have hb20 : er20 ≤ 9223372036854775807 := by rw [← he20]; split <;> omega
   have hB20 : ∀ w, Mem w0 w (Bn19 ++ BB19) → Mem w0 w ((oi, blk (cr ++ ri) 25) :: B0) := fun w m => hB19 w m.appR
   generalize hgn20 : hd19.put 19 (.text (if y19.length = 32 then y19 else List.replicate 32 0#8)) = hd20 at *
   generalize hbb20 : (Bn19 ++ BB19) = BB20 at *
   clear hgn20 hbb20 he20 hk19 hc20 hg19 hv19 hv19' hB19 htl19 hb19 hfl19
   have eq20 : min its.length 20 = 20 := by omega
   exact QW.join ⟨hd20, er20, A20, c20, BB20, by rw [eq20]; exact hp20, htl20, hb20, hB20, hv20, rfl, rfl⟩ ⟨rfl, rfl, rfl, trivial⟩ (fun w m => by rw [eq20]; exact m.rot1)
  ·refine Z14 rfl (decide_eq_false (by omega)) (CW.skip ?_)
   have en20 : min its.length 20 = min its.length 17 := by omega
   exact QW.join ⟨hd17, er17, A17, c17, BB17, by rw [en20]; exact hp17, htl17, hb17, hB17, hv17, rfl, rfl⟩ ⟨rfl, rfl, rfl, trivial⟩ (fun w m => by rw [en20]; exact m)
 rintro L' M' ⟨hd20, er20, A20, c20, BB20, hp20, htl20, hb20, hB20, hv20, rfl, rfl⟩
 refine Z1 (Z4 ?_)
 refine Z120 (fun L' M' => ∃ (hd : Hdr) (er : Nat) (A : Option Addr) (c : Nat) (BB : List Ent), refL (min its.length 21) (its.drop (min its.length 21)) hd er = some (hh3, ee3) ∧ hd.tail = t ∧ er ≤ 9223372036854775807 ∧ (∀ w, Mem w0 w BB → Mem w0 w ((oi, blk (cr ++ ri) 25) :: B0)) ∧ View (More w0 Φ BB) A hd.extra.length c 1 (u8s hd.extra) ∧ L' = [(2, ptr (some b2) 0), (6, ptr (some b6) 0), (7, ptr (some b27) 0)] ∧ M' = (some b27, blk (rdC (oi.map fun k => ⟨k, 0, none⟩) its.length ci (min its.length 21) er) 106) :: (some b6, blk (hd.C A c).C 38) :: (some b2, blk (Hdr.zero.C none 0).C 38) :: (BB ++ N)) ?_ ?_
 rotate_left
 ·have hct20 : (hd20.C A20 c20).C[485]? = some (.int .i64 t) := by rw [← htl20]; exact Z143 _
  refine Z4 (Z2 (Z0 (Z30 rfl rfl rfl rfl) rfl (Z0 (Z29 rfl (List.Mem.tail _ Zh) rfl rfl rfl hct20) rfl (Z0 (RV.geq rfl rfl) rfl (Z6 (Z1 ?_))))))
  by_cases hq20 : 4 ≤ t
  ·refine Z13 rfl (decide_eq_true (by omega)) ?_
   have em20 : min its.length 20 = 20 := by omega
   rw [em20] at hp20 ⊢
   have hs20 : slotL[20]? = some (.text 556 32) := rfl
   have hi20 : 20 < its.length := by omega
   have hx20 : its[20]? = some its[20] := List.getElem?_eq_getElem hi20
   rw [List.drop_eq_getElem_cons hi20, refL, hs20] at hp20
   obtain ⟨⟨f20, er21⟩, hr20, hp21⟩ := Option.bind_eq_some_iff.1 hp20
   dsimp only at hp21
   rw [refS] at hr20
   obtain ⟨⟨y20, k20⟩, hg20, hr20⟩ := Option.bind_eq_some_iff.1 hr20
   obtain ⟨hf20, he21⟩ := Prod.mk.inj (Zi hr20)
   dsimp only at hf20 he21
   subst hf20
   have hfl20 : ((if y20.length = 32 then y20 else List.replicate 32 0#8)).length = 32 := by split <;> simp_all
   refine Z2 (Z0 (Z3 rfl) rfl ?_)
   refine Z12 Tryd.call48 rfl (rd19_hash w0 (More w0 Φ ((oi, blk (cr ++ ri) 25) :: B0)) ((some b6, blk (hd20.C A20 c20).C 38) :: (some b2, blk (Hdr.zero.C none 0).C 38) :: (BB20 ++ N)) (fun w m => hΨ w (m.drop 2).appR ((hB20 w (m.drop 2).appL))) b27 (oi.map fun k => ⟨k, 0, none⟩) ci cr its 20 er20 its[20] y20 k20 hvi hri hx20 hg20) rfl rfl ?_; rintro _ _ ⟨Bn20, hk20, rfl, rfl⟩; rw [he21]; refine Z20 (M' := (some b6, blk (hd20.C A20 c20).C 38) :: (some b27, blk (rdC (oi.map fun k => ⟨k, 0, none⟩) its.length ci 21 er21) 106) :: (some b2, blk (Hdr.zero.C none 0).C 38) :: ((Bn20 ++ BB20) ++ N)) (fun w m => m.chunk [[(some b27, blk (rdC (oi.map fun k => ⟨k, 0, none⟩) its.length ci 21 er21) 106)], Bn20, [(some b6, blk (hd20.C A20 c20).C 38)], [(some b2, blk (Hdr.zero.C none 0).C 38)], BB20, N] [2, 0, 3, 1, 4, 5] rfl (by simp) (by simp)) ?_
   refine Z0 (Z30 rfl rfl rfl rfl) rfl ?_
   refine Z28 (Z133 rfl rfl rfl (Z123 _) rfl (by rw [Z100, hfl20]; rfl) (by rw [Z111]; decide)) ?_; have hv20' := hv20.mono (Ψ := More w0 Φ (Bn20 ++ BB20)) (fun w q => ⟨q.1, q.2.appR⟩); obtain ⟨A21, c21, hc21, hv21⟩ := Wrote.put (Ψ := More w0 Φ (Bn20 ++ BB20)) hs20 (show Wrote _ (hd20.C A20 c20).C (spl (hd20.C A20 c20).C 556 (u8s (if y20.length = 32 then y20 else List.replicate 32 0#8))) (.text 556 32) (.text (if y20.length = 32 then y20 else List.replicate 32 0#8)) from ⟨Nat.le_of_eq hfl20, rfl⟩) hv20'; refine OW.cells _ hc21 ?_
   refine Z6 ?_
   have htl21 : (hd20.put 20 (.text (if y20.length = 32 then y20 else List.replicate 32 0#8))).tail = t := by rw [Z113]; exact htl20
   have hb21 : er21 ≤ 9223372036854775807 := by rw [← he21]; split <;> omega
   have hB21 : ∀ w, Mem w0 w (Bn20 ++ BB20) → Mem w0 w ((oi, blk (cr ++ ri) 25) :: B0) := fun w m => hB20 w m.appR
   generalize hgn21 : hd20.put 20 (.text (if y20.length = 32 then y20 else List.replicate 32 0#8)) = hd21 at *
   generalize hbb21 : (Bn20 ++ BB20) = BB21 at *
   clear hgn21 hbb21 he21 hk20 hc21 hg20 hv20 hv20' hB20 htl20 hb20 hfl20
   have eq21 : min its.length 21 = 21 := by omega
   exact QW.join ⟨hd21, er21, A21, c21, BB21, by rw [eq21]; exact hp21, htl21, hb21, hB21, hv21, rfl, rfl⟩ ⟨rfl, rfl, rfl, trivial⟩ (fun w m => by rw [eq21]; exact m.rot1)
  ·refine Z14 rfl (decide_eq_false (by omega)) (CW.skip ?_)
   have en21 : min its.length 21 = min its.length 20 := by omega
   exact QW.join ⟨hd20, er20, A20, c20, BB20, by rw [en21]; exact hp20, htl20, hb20, hB20, hv20, rfl, rfl⟩ ⟨rfl, rfl, rfl, trivial⟩ (fun w m => by rw [en21]; exact m)
 rintro L' M' ⟨hd21, er21, A21, c21, BB21, hp21, htl21, hb21, hB21, hv21, rfl, rfl⟩
 refine Z1 ?_
 have e21 : min its.length 21 = its.length := by omega
 rw [e21, List.drop_length, refL] at hp21
 obtain ⟨rfl, rfl⟩ := Prod.mk.inj (Zi hp21)
 (refine Z4 ?_; refine Z4 ?_)
 refine Z2 (Z0 (Z3 rfl) rfl (Z0 (RV.nilCheck rfl) rfl (Z0 (Z30 rfl rfl rfl rfl) rfl (Z0 (Z29 rfl Zh rfl rfl rfl rfl) rfl (Z0 (RV.neq rfl rfl) rfl (Z6 (Z1 ?_)))))))
 by_cases h4 : er21 = 0
 ·rw [if_pos h4] at hf
  obtain ⟨rfl, rfl⟩ := Prod.mk.inj (Zi hf)
  refine Z14 rfl (by rw [h4]; rfl) ?_
  (refine CW.skip ?_; refine Z1 ?_; refine Z4 ?_)
  refine Z2 ?_
  refine Z0 (Z22 rfl (List.Mem.tail _ Zh) rfl rfl rfl rfl Z111) rfl ?_; refine OW.rot2 ?_
  refine Z28 (Z105 rfl rfl rfl zhdr_one rfl Z111 Z111) (Z0 (Z5 rfl) rfl (Z6 ?_))
  (refine Z1 ?_; refine CW.ret ?_)
  refine Z106 (rs := [.cell 2 38, .tmp 3]) [.agg ((hd21.C A21 c21).C).toArray, .int .i64 ((0 : Nat) : Int)] ((some b2, blk (hd21.C A21 c21).C 38) :: BB21) rfl ?_ rfl ?_ ?_ _ (.inl rfl)
  ·exact ⟨⟨_, _, _, _, rfl, Zh, rfl, rfl, (by rw [Z111]; rfl), rfl⟩, rfl, trivial⟩
  ·exact ⟨_, _, ⟨A21, c21, rfl, hv21.mono (fun w q => ⟨q.1, q.2.tail⟩), by rw [htl21]; exact htb⟩, by omega, rfl, rfl⟩
  ·exact fun w m => m.pick [0] 3 rfl rfl
 ·rw [if_neg h4] at hf
  obtain ⟨rfl, rfl⟩ := Prod.mk.inj (Zi hf)
  refine Z13 rfl (by simpa using h4) (Z4 (Z132 ((some b27, blk (rdC (oi.map fun k => ⟨k, 0, none⟩) its.length ci (min its.length 21) er21) 106) :: (some b6, blk (hd21.C A21 c21).C 38) :: (BB21 ++ N)) [5] (fun w m => m.pick [0, 1] 3 rfl rfl) mixed (by kernel_rfl) (Z10 0 rfl (by kernel_rfl) rfl (Z109 (l := (Hdr.zero.C none 0).C) (cs := (Hdr.zero.C none 0).C) [] rfl rfl rfl Z121 rfl rfl rfl) rfl (Z10 1 rfl (by kernel_rfl) rfl (Z3 rfl) rfl (Z10 2 rfl (by kernel_rfl) rfl (RV.nilCheck rfl) rfl (Z10 3 rfl (by kernel_rfl) rfl (Z30 rfl rfl rfl rfl) rfl (Z10 4 rfl (by kernel_rfl) rfl (Z29 rfl Zh rfl rfl rfl rfl) rfl ?_)))))))
  refine Z19 (M' := (some b2, blk (Hdr.zero.C none 0).C 38) :: (some b27, blk (rdC (oi.map fun k => ⟨k, 0, none⟩) its.length ci (min its.length 21) er21) 106) :: (some b6, blk (hd21.C A21 c21).C 38) :: (BB21 ++ N)) (fun w m => m.pick [2, 0, 1] 3 rfl rfl) (fun w m => m.tail) (XW.sv 5 rfl (by kernel_rfl) (Z105 rfl rfl rfl zhdr_one rfl Z111 Z111) (fun w m => m.tail) (Z10 6 rfl (by kernel_rfl) rfl (Z5 rfl) rfl (XW.nil (by kernel_rfl) ?_)))
  (refine Z1 ?_; refine CW.ret ?_; refine Z8 ?_)
  refine Z106 (rs := [.cell 2 38, .tmp 3]) [.agg ((Hdr.zero.C none 0).C).toArray, .int .i64 (er21 : Int)] ((some b2, blk (Hdr.zero.C none 0).C 38) :: []) rfl ?_ rfl ?_ ?_ _ (.inl rfl)
  ·exact ⟨⟨_, _, _, _, rfl, Zh, rfl, rfl, (by rw [Z111]; rfl), rfl⟩, rfl, trivial⟩
  ·exact ⟨_, _, hzero _, hb21, rfl, rfl⟩
  ·exact fun w m => (m.pick [0] 3 rfl rfl : Mem w0 w ((some b2, blk (Hdr.zero.C none 0).C 38) :: (BB21 ++ N))).sublist (List.Sublist.cons_cons _ (List.sublist_append_right _ _))
theorem Z145 (w0 : World) (Φ : Ctx) (N : List Ent) (hΦ : ∀ w, Mem w0 w N → Φ w) (A0_ : Option Addr) (c0_ : Nat) (a0 : List (BitVec 8)) (res0 : Hdr) (res1 : Nat) (va0 : View Φ A0_ a0.length c0_ 1 (u8s a0)) (hf : waybillref19_Decode a0 = some (res0, res1)) : DoesG Tryd.prog 11 [.slice A0_ a0.length c0_] w0 [] N (fun v G => ∃ B : List Ent, ∃ cr0 : List Value, (HdrRd (More w0 Φ B) cr0 res0) ∧ (res1 ≤ 9223372036854775807) ∧ v = .tuple #[.agg cr0.toArray, .int .i64 ((res1 : Nat) : Int)] ∧ G = B) := by
 unfold waybillref19_Decode at hf
 replace va0 := va0.mono (Ψ := More w0 Φ []) (fun w q => q.1)
 have m1 := va0.mx
 refine DoesG.enter Tryd.func11 rfl Tryd.ntmps11 rfl (M := (([] ++ N))) rfl (Z4 (Z2 (OW.alloc (l := (⟨(Vector.replicate 32 0#8), (Vector.replicate 32 0#8), (Vector.replicate 20 0#8), (Vector.replicate 32 0#8), (Vector.replicate 32 0#8), (Vector.replicate 32 0#8), (Vector.replicate 256 0#8), (Vector.replicate 4 0#64), 0#64, 0#64, 0#64, 0#64, .slice none 0 0, (Vector.replicate 32 0#8), (Vector.replicate 8 0#8), (0 : Int), (Vector.replicate 4 0#64), (Vector.replicate 32 0#8), 0#64, 0#64, (Vector.replicate 32 0#8), (Vector.replicate 32 0#8)⟩ : HdrC).C) rfl (by kernel_rfl) rfl (fun b2 => (Z0 (Z5 rfl) rfl (Z6 (Z1 (Z4 (Z2 (Z0 (Z3 rfl) rfl ?_))))))))))
 obtain ⟨⟨x4, x5⟩, hx3, hf⟩ := Z103 hf
 try dsimp only at hf
 refine Z12 Tryd.call40 rfl (waybillref07_Decode_does w0 (More w0 Φ []) ((some b2, blk (⟨(Vector.replicate 32 0#8), (Vector.replicate 32 0#8), (Vector.replicate 20 0#8), (Vector.replicate 32 0#8), (Vector.replicate 32 0#8), (Vector.replicate 32 0#8), (Vector.replicate 256 0#8), (Vector.replicate 4 0#64), 0#64, 0#64, 0#64, 0#64, .slice none 0 0, (Vector.replicate 32 0#8), (Vector.replicate 8 0#8), (0 : Int), (Vector.replicate 4 0#64), (Vector.replicate 32 0#8), 0#64, 0#64, (Vector.replicate 32 0#8), (Vector.replicate 32 0#8)⟩ : HdrC).C 38) :: ([] ++ N)) (fun w m => More.of hΦ 1 m rfl) A0_ c0_ a0 x4 x5 va0 hx3) rfl rfl ?_
 rintro L10 M11 ⟨B6, cs7, h8, b9, e12, e13⟩
 rw [e12, e13]
 clear e12 e13 L10 M11
 refine Z20 (M' := ((some b2, blk (⟨(Vector.replicate 32 0#8), (Vector.replicate 32 0#8), (Vector.replicate 20 0#8), (Vector.replicate 32 0#8), (Vector.replicate 32 0#8), (Vector.replicate 32 0#8), (Vector.replicate 256 0#8), (Vector.replicate 4 0#64), 0#64, 0#64, 0#64, 0#64, .slice none 0 0, (Vector.replicate 32 0#8), (Vector.replicate 8 0#8), (0 : Int), (Vector.replicate 4 0#64), (Vector.replicate 32 0#8), 0#64, 0#64, (Vector.replicate 32 0#8), (Vector.replicate 32 0#8)⟩ : HdrC).C 38) :: ((B6 ++ []) ++ N))) (fun w m => by have h := Z119 (A := B6) m 0 1 rfl rfl; exact h) ?_
 have gq1 : ∀ w, More w0 Φ (B6 ++ []) w → More w0 Φ [] w := fun w q => More.mono (fun w m => (m).appR) q
 replace va0 := va0.mono gq1
 replace h8 := ItRd.mono (Ψ := (More w0 Φ (B6 ++ []))) (fun w q => More.flat q) _ _ h8
 have h23 := h8
 obtain ⟨A14, c15, A17, c18, cs20, e22, v16, v19, h21⟩ := ItRd.opn h8
 subst e22
 have m24 := v16.mx
 have m25 := v19.mx
 have m26 := v16.mx
 have m27 := v19.mx
 refine Z0 (Z3 rfl) rfl (Z0 (Z17 rfl rfl) rfl (Z7 (.agg [.bool (x4.list), .slice A14 x4.data.length c15, .slice A17 x4.items.length c18].toArray) (rfl) (Z0 (Z17 rfl rfl) rfl (Z7 (.int .i64 ((x5 : Nat) : Int)) (rfl) (OW.alloc (l := [.bool false, .slice none 0 0, .slice none 0 0]) rfl rfl rfl (fun b28 => ?_))))))
 refine Z28 (Z105 rfl rfl rfl (by intro u hu; simp at hu; rcases hu with rfl | rfl | rfl <;> rfl) rfl rfl rfl) ?_
 refine Z0 (Z5 rfl) rfl (Z6 (Z1 (Z4 (Z4 (Z2 (Z0 (Z3 rfl) rfl (Z0 (RV.neq rfl rfl) rfl (Z7 (.bool (!decide (x5 = 0))) (congrArg (fun b => Value.bool (!b)) (decide_eq_decide.2 (by omega))) (Z6 (Z1 ?_))))))))))
 by_cases h29 : x5 = 0
 ·replace hf := if_t hf h29
  refine Z14 rfl (congrArg (fun b => !b) (decide_eq_true h29)) (CW.skip (Z1 (Z4 (Z2 (Z0 (Z22 rfl Zh rfl rfl rfl rfl rfl) rfl ?_)))))
  obtain ⟨⟨x31, x32⟩, hx30, hf⟩ := Z103 hf
  try dsimp only at hf
  refine Z12 Tryd.call17 rfl (waybillref19_Parse_does w0 (More w0 Φ (B6 ++ [])) ((some b28, blk [.bool (x4.list), .slice A14 x4.data.length c15, .slice A17 x4.items.length c18] 25) :: (some b2, blk (⟨(Vector.replicate 32 0#8), (Vector.replicate 32 0#8), (Vector.replicate 20 0#8), (Vector.replicate 32 0#8), (Vector.replicate 32 0#8), (Vector.replicate 32 0#8), (Vector.replicate 256 0#8), (Vector.replicate 4 0#64), 0#64, 0#64, 0#64, 0#64, .slice none 0 0, (Vector.replicate 32 0#8), (Vector.replicate 8 0#8), (0 : Int), (Vector.replicate 4 0#64), (Vector.replicate 32 0#8), 0#64, 0#64, (Vector.replicate 32 0#8), (Vector.replicate 32 0#8)⟩ : HdrC).C 38) :: ((B6 ++ []) ++ N)) (fun w m => More.of hΦ 2 m rfl) [.bool (x4.list), .slice A14 x4.data.length c15, .slice A17 x4.items.length c18] x4 x31 x32 h23 hx30) rfl rfl ?_
  rintro L37 M38 ⟨B33, cs34, h35, b36, e39, e40⟩
  rw [e39, e40]
  clear e39 e40 L37 M38
  refine Z20 (M' := ((some b28, blk [.bool (x4.list), .slice A14 x4.data.length c15, .slice A17 x4.items.length c18] 25) :: (some b2, blk (⟨(Vector.replicate 32 0#8), (Vector.replicate 32 0#8), (Vector.replicate 20 0#8), (Vector.replicate 32 0#8), (Vector.replicate 32 0#8), (Vector.replicate 32 0#8), (Vector.replicate 256 0#8), (Vector.replicate 4 0#64), 0#64, 0#64, 0#64, 0#64, .slice none 0 0, (Vector.replicate 32 0#8), (Vector.replicate 8 0#8), (0 : Int), (Vector.replicate 4 0#64), (Vector.replicate 32 0#8), 0#64, 0#64, (Vector.replicate 32 0#8), (Vector.replicate 32 0#8)⟩ : HdrC).C 38) :: ((B33 ++ (B6 ++ [])) ++ N))) (fun w m => by have h := Z119 (A := B33) m 0 2 rfl rfl; exact h) ?_
  have gq2 : ∀ w, More w0 Φ (B33 ++ (B6 ++ [])) w → More w0 Φ (B6 ++ []) w := fun w q => More.mono (fun w m => (m).appR) q
  replace va0 := va0.mono gq2
  replace h23 := ItRd.mono gq2 _ _ h23
  replace v16 := v16.mono gq2
  replace v19 := v19.mono gq2
  replace h21 := h21.mono (ItRd.mono gq2)
  replace h35 := HdrRd.mono (Ψ := (More w0 Φ (B33 ++ (B6 ++ [])))) (fun w q => More.flat q) _ _ h35
  have h46 := h35
  obtain ⟨A41, c42, e45, v43, b44⟩ := HdrRd.opn h35
  subst e45
  have m47 := v43.mx
  have m48 := v43.mx
  refine Z0 (Z17 rfl rfl) rfl (Z7 (.agg (⟨x31.parent, x31.uncles, x31.coinbase, x31.state, x31.txRoot, x31.receiptRoot, x31.bloom, x31.difficulty, x31.number, x31.limit, x31.used, x31.time, .slice A41 x31.extra.length c42, x31.mix, x31.nonce, x31.tail, x31.baseFee, x31.withdrawals, x31.blobUsed, x31.blobExcess, x31.beacon, x31.requests⟩ : HdrC).C.toArray) (rfl) (Z0 (Z17 rfl rfl) rfl (Z7 (.int .i64 ((x32 : Nat) : Int)) (rfl) (OW.rot1 (Z28 (Z105 rfl rfl rfl (HdrC.C_one _ rfl) rfl (HdrC.C_length _) (HdrC.C_length _)) (Z0 (Z5 rfl) rfl (Z6 (Z1 (CW.ret ?_)))))))))
  have er0 := Zi hf
  obtain ⟨e0, er1⟩ := Prod.mk.inj er0
  clear er0
  subst e0
  subst er1
  refine Z106 (rs := [.cell 2 38, .tmp 3]) ([.agg (⟨x31.parent, x31.uncles, x31.coinbase, x31.state, x31.txRoot, x31.receiptRoot, x31.bloom, x31.difficulty, x31.number, x31.limit, x31.used, x31.time, .slice A41 x31.extra.length c42, x31.mix, x31.nonce, x31.tail, x31.baseFee, x31.withdrawals, x31.blobUsed, x31.blobExcess, x31.beacon, x31.requests⟩ : HdrC).C.toArray, .int .i64 ((x32 : Nat) : Int)]) ((B33 ++ (B6 ++ []))) rfl ?_ rfl ?_ ?_ _ (.inl rfl)
  ·exact ⟨⟨_, _, _, _, rfl, Zh, rfl, rfl, (congrArg some (HdrC.C_length _).symm), rfl⟩, rfl, trivial⟩
  ·exact ⟨(B33 ++ (B6 ++ [])), (⟨x31.parent, x31.uncles, x31.coinbase, x31.state, x31.txRoot, x31.receiptRoot, x31.bloom, x31.difficulty, x31.number, x31.limit, x31.used, x31.time, .slice A41 x31.extra.length c42, x31.mix, x31.nonce, x31.tail, x31.baseFee, x31.withdrawals, x31.blobUsed, x31.blobExcess, x31.beacon, x31.requests⟩ : HdrC).C, h46, (by omega), rfl, rfl⟩
  ·exact (fun w m => m.pick [] 2 rfl rfl)
 ·replace hf := if_f hf h29
  refine Z13 rfl (congrArg (fun b => !b) (decide_eq_false h29)) (Z4 (Z2 (Z0 (Z109 (l := (⟨(Vector.replicate 32 0#8), (Vector.replicate 32 0#8), (Vector.replicate 20 0#8), (Vector.replicate 32 0#8), (Vector.replicate 32 0#8), (Vector.replicate 32 0#8), (Vector.replicate 256 0#8), (Vector.replicate 4 0#64), 0#64, 0#64, 0#64, 0#64, .slice none 0 0, (Vector.replicate 32 0#8), (Vector.replicate 8 0#8), (0 : Int), (Vector.replicate 4 0#64), (Vector.replicate 32 0#8), 0#64, 0#64, (Vector.replicate 32 0#8), (Vector.replicate 32 0#8)⟩ : HdrC).C) (cs := (⟨(Vector.replicate 32 0#8), (Vector.replicate 32 0#8), (Vector.replicate 20 0#8), (Vector.replicate 32 0#8), (Vector.replicate 32 0#8), (Vector.replicate 32 0#8), (Vector.replicate 256 0#8), (Vector.replicate 4 0#64), 0#64, 0#64, 0#64, 0#64, .slice none 0 0, (Vector.replicate 32 0#8), (Vector.replicate 8 0#8), (0 : Int), (Vector.replicate 4 0#64), (Vector.replicate 32 0#8), 0#64, 0#64, (Vector.replicate 32 0#8), (Vector.replicate 32 0#8)⟩ : HdrC).C) [] rfl rfl rfl (by kernel_rfl) rfl rfl rfl) rfl (Z0 (Z3 rfl) rfl (OW.rot1 (Z28 (Z105 rfl rfl rfl (HdrC.C_one _ rfl) rfl (HdrC.C_length _) (HdrC.C_length _)) (Z0 (Z5 rfl) rfl (Z6 (Z1 (CW.ret (Z8 ?_)))))))))))
  have er0 := Zi hf
  obtain ⟨e0, er1⟩ := Prod.mk.inj er0
  clear er0
  subst e0
  subst er1
  have v49 : View (More w0 Φ (B6 ++ [])) none ([] : List (BitVec 8)).length 0 1 (u8s []) := View.nil
  have h50 : HdrRd (More w0 Φ (B6 ++ [])) (⟨(Vector.replicate 32 0#8), (Vector.replicate 32 0#8), (Vector.replicate 20 0#8), (Vector.replicate 32 0#8), (Vector.replicate 32 0#8), (Vector.replicate 32 0#8), (Vector.replicate 256 0#8), (Vector.replicate 4 0#64), 0#64, 0#64, 0#64, 0#64, .slice none 0 0, (Vector.replicate 32 0#8), (Vector.replicate 8 0#8), (0 : Int), (Vector.replicate 4 0#64), (Vector.replicate 32 0#8), 0#64, 0#64, (Vector.replicate 32 0#8), (Vector.replicate 32 0#8)⟩ : HdrC).C (Hdr.mk (Vector.replicate 32 0#8) (Vector.replicate 32 0#8) (Vector.replicate 20 0#8) (Vector.replicate 32 0#8) (Vector.replicate 32 0#8) (Vector.replicate 32 0#8) (Vector.replicate 256 0#8) (Vector.replicate 4 0#64) (0#64) (0#64) (0#64) (0#64) ([] : List (BitVec 8)) (Vector.replicate 32 0#8) (Vector.replicate 8 0#8) (0 : Int) (Vector.replicate 4 0#64) (Vector.replicate 32 0#8) (0#64) (0#64) (Vector.replicate 32 0#8) (Vector.replicate 32 0#8)) := HdrRd.zero
  refine Z106 (rs := [.cell 2 38, .tmp 3]) ([.agg (⟨(Vector.replicate 32 0#8), (Vector.replicate 32 0#8), (Vector.replicate 20 0#8), (Vector.replicate 32 0#8), (Vector.replicate 32 0#8), (Vector.replicate 32 0#8), (Vector.replicate 256 0#8), (Vector.replicate 4 0#64), 0#64, 0#64, 0#64, 0#64, .slice none 0 0, (Vector.replicate 32 0#8), (Vector.replicate 8 0#8), (0 : Int), (Vector.replicate 4 0#64), (Vector.replicate 32 0#8), 0#64, 0#64, (Vector.replicate 32 0#8), (Vector.replicate 32 0#8)⟩ : HdrC).C.toArray, .int .i64 ((x5 : Nat) : Int)]) ((B6 ++ [])) rfl ?_ rfl ?_ ?_ _ (.inl rfl)
  ·exact ⟨⟨_, _, _, _, rfl, Zh, rfl, rfl, (congrArg some (HdrC.C_length _).symm), rfl⟩, rfl, trivial⟩
  ·exact ⟨(B6 ++ []), (⟨(Vector.replicate 32 0#8), (Vector.replicate 32 0#8), (Vector.replicate 20 0#8), (Vector.replicate 32 0#8), (Vector.replicate 32 0#8), (Vector.replicate 32 0#8), (Vector.replicate 256 0#8), (Vector.replicate 4 0#64), 0#64, 0#64, 0#64, 0#64, .slice none 0 0, (Vector.replicate 32 0#8), (Vector.replicate 8 0#8), (0 : Int), (Vector.replicate 4 0#64), (Vector.replicate 32 0#8), 0#64, 0#64, (Vector.replicate 32 0#8), (Vector.replicate 32 0#8)⟩ : HdrC).C, h50, (by omega), rfl, rfl⟩
  ·exact (fun w m => m.pick [] 2 rfl rfl)
end Go.Fw.Tryd
