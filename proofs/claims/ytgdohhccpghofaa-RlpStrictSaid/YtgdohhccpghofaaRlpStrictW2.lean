/- Part of a proof over Ytgdohhccpghofaa: rules and contracts that the law's text uses. No condition. -/
import Derived.Test.YtgdohhccpghofaaTy
import Derived.Test.YtgdohhccpghofaaExt
import Derived.Test.YtgdohhccpghofaaRlpRoom
import Derived.Test.YtgdohhccpghofaaRtL
import Derived.Test.YtgdohhccpghofaaFwD
import Derived.Test.YtgdohhccpghofaaRlpD
import Derived.Test.YtgdohhccpghofaaRlpP1
import Derived.Test.YtgdohhccpghofaaRlpP2
import Derived.Test.YtgdohhccpghofaaRlpP3
import Derived.Test.YtgdohhccpghofaaRlpP4
import Derived.Test.YtgdohhccpghofaaRlpP6
import Derived.Test.YtgdohhccpghofaaRlpStrictW1
namespace Go.Fw.Try
open Go Go.Proofs Go.Fw
set_option maxRecDepth 100000
set_option linter.unusedVariables false
set_option linter.unusedSimpArgs false
set_option maxHeartbeats 1000000

abbrev Zc : List Value := [.bool false, .slice none 0 0, .slice none 0 0]
abbrev DecR (w0 : World) (Φ : Ctx) (res0 : It) (res1 : Nat) : Value → List Ent → Prop := fun v G => ∃ B : List Ent, ∃ cr0 : List Value, (ItRd (More w0 Φ B) cr0 res0) ∧ (res1 ≤ 9223372036854775807) ∧ v = .tuple #[.agg cr0.toArray, .int .i64 ((res1 : Nat) : Int)] ∧ G = B
abbrev DecQ (w0 : World) (Φ : Ctx) (N : List Ent) (res0 : It) (res1 : Nat) := bodyPost Try.prog Try.f55 (EndsJ w0 (fun v M' => ∃ G, DecR w0 Φ res0 res1 v G ∧ M' = G ++ N))
def JD (w0 : World) (Φ : Ctx) (N : List Ent) (res0 : It) (res1 : Nat) : Nat → Nat → Slots → List Ent → Prop
  | 0, _, L, M => ∃ b2 : Nat, res0 = It.zero ∧ res1 ≤ 9223372036854775807 ∧ L = [(2, ptr (some b2) 0), (9, .int .i64 ((res1 : Nat) : Int))] ∧ M = (some b2, blk Zc 29) :: N
  | l + 1, k, L, M => ∃ (b : List (BitVec 8)) (A : Option Addr) (c : Nat) (F : List Frm) (B : List Ent) (ob4 : Option Nat) (c4 : Nat) (r4 : List Value) (b5 : Nat) (cs5 : List Value) (b2 : Nat) (it : It),
      dec k (l + 1) b it (F.map Frm.pure) = some (res0, res1) ∧ (l = 1 → ItRd (More w0 Φ B) cs5 it) ∧ View (More w0 Φ B) A b.length c 1 (u8s b) ∧ (∀ f ∈ F, f.Ok (More w0 Φ B)) ∧ OwnS ob4 F.length c4 2 (stC F) r4 ∧ cs5.length = 3 ∧
      L = [(0, .slice A b.length c), (2, ptr (some b2) 0), (4, sl ob4 0 F.length c4), (5, ptr (some b5) 0)] ∧
      M = (ob4, blk (stC F ++ r4) 112) :: (some b5, blk cs5 29) :: (some b2, blk Zc 29) :: (F.map (Frm.ent 29) ++ (B ++ N))
theorem toBroken {w0 w : World} {s c5 c2 : Ent} {X B N : List Ent} (m : Mem w0 w (s :: c5 :: c2 :: (X ++ (B ++ N)))) : Mem w0 w (c2 :: N) :=
  m.tail.tail.sublist (List.Sublist.cons_cons _ ((List.sublist_append_right _ _).trans (List.sublist_append_right _ _)))
theorem dec_w3 (w0 : World) (Φ : Ctx) (N : List Ent) (hΦ : ∀ w, Mem w0 w N → Φ w) (res0 : It) (res1 : Nat) (k m : Nat) (hkm : k ≤ m) (L : Slots) (M : List Ent) (h : JD w0 Φ N res0 res1 3 k L M) :
    CW Try.prog 105 (JumpJ 105 w0 (JD w0 Φ N res0 res1) m (DecQ w0 Φ N res0 res1)) w0 (afterL (scopeOf Try.f55.body) 3) L M := by
  obtain ⟨b, A, c, F, B, ob4, c4, r4, b5, cs5, b2, it, hf, -, vb, hF, o4, h5, rfl, rfl⟩ := h
  rcases k with _ | k
  · rw [dec] at hf; cases hf
  replace hf : dec (k + 1) 3 b it _ = _ := hf
  rw [dec_3] at hf
  have m1 := vb.mx
  have m2 := o4.mx
  refine CW.seq ?_
  refine CW.seq ?_
  refine CW.region ?_
  refine OW.rv (RV.move rfl) rfl ?_
  refine OW.rv (RV.len rfl rfl) rfl ?_
  refine OW.rv (RV.gtr rfl rfl) rfl ?_
  refine OW.slot (.bool (decide (0 < b.length))) (congrArg Value.bool (decide_eq_decide.2 (by omega))) ?_
  refine OW.nil ?_
  refine QW.then_n ?_
  by_cases h1 : 0 < b.length
  · replace hf := if_t hf h1
    refine CW.is_t rfl (decide_eq_true h1) ?_
    refine CW.goto ?_
    refine QW.then_g ?_
    exact QW.jump (k := k) (by omega) ⟨b, A, c, F, B, ob4, c4, r4, b5, cs5, b2, It.zero, hf, (fun e => absurd e (by decide)), vb, hF, o4, h5, rfl, rfl⟩ ⟨rfl, rfl, rfl, rfl, trivial⟩ (fun w m => m)
  · replace hf := if_f hf h1
    refine CW.is_f rfl (decide_eq_false h1) ?_
    refine CW.skip ?_
    refine QW.then_n ?_
    rcases F with _ | ⟨f, F⟩
    · cases hf
    replace hf : dec k 2 f.behind (It.mk true [] f.items) (F.map Frm.pure) = some (res0, res1) := hf
    have o4' : OwnS ob4 (F.length + 1) c4 2 (stC (f :: F)) r4 := o4
    have h0 : ob4.isSome = true := o4'.isSome (i := F.length) (by decide) (by omega)
    have hf0 := hF f (List.mem_cons_self ..)
    refine CW.seq ?_
    refine CW.region ?_
    refine OW.rv (RV.move rfl) rfl ?_
    refine OW.rv (RV.move rfl) rfl ?_
    refine OW.rv (RV.len rfl rfl) rfl ?_
    refine OW.rv (RV.sub rfl rfl (by simp only [List.length_cons] at *; omega)) rfl ?_
    refine OW.rv (RV.idx_os (F.length) rfl rfl (by simp) rfl rfl h0 (by simp only [List.length_cons]; omega)) rfl ?_
    refine OW.rv (RV.field rfl rfl rfl rfl) rfl ?_
    refine OW.rv (RV.load rfl (List.Mem.head _) h0 rfl rfl (stC_at0 F f r4)) rfl ?_
    refine OW.rv (RV.buildSt (l := Zc) (cs := [.bool true, .slice none 0 0, sl f.ob 0 f.items.length f.c]) [(0, [.bool true]), (2, [sl f.ob 0 f.items.length f.c])] rfl rfl rfl rfl rfl rfl rfl) rfl ?_
    refine OW.rot1 ?_
    refine OW.sv (SV.storeW rfl rfl rfl (by intro u hu; simp at hu; rcases hu with rfl | rfl | rfl <;> rfl) rfl h5 rfl) ?_
    refine OW.nil ?_
    refine QW.then_n ?_
    refine CW.seq ?_
    refine CW.region ?_
    refine OW.rv (RV.move rfl) rfl ?_
    refine OW.rv (RV.move rfl) rfl ?_
    refine OW.rv (RV.len rfl rfl) rfl ?_
    refine OW.rv (RV.sub rfl rfl (by simp only [List.length_cons] at *; omega)) rfl ?_
    refine OW.rv (RV.idx_os (F.length) rfl rfl (by simp) rfl rfl h0 (by simp only [List.length_cons]; omega)) rfl ?_
    refine OW.rv (RV.field rfl rfl rfl rfl) rfl ?_
    refine OW.rv (RV.load rfl (List.Mem.tail _ (List.Mem.head _)) h0 rfl rfl (stC_at1 F f r4)) rfl ?_
    refine OW.rv (RV.assign rfl) rfl ?_
    refine OW.nil ?_
    refine QW.then_n ?_
    refine CW.seq ?_
    refine CW.region ?_
    refine OW.rv (RV.move rfl) rfl ?_
    refine OW.rv (RV.move rfl) rfl ?_
    refine OW.rv (RV.len rfl rfl) rfl ?_
    refine OW.rv (RV.sub rfl rfl (by simp only [List.length_cons] at *; omega)) rfl ?_
    refine OW.rv (RV.cut_o (F.length) rfl rfl (by simp) rfl rfl (by have := o4'.le (by decide); simp only [List.length_cons]; omega)) rfl ?_
    refine OW.rv (RV.assign rfl) rfl ?_
    refine OW.nil ?_
    refine QW.then_n ?_
    refine CW.seq ?_
    refine CW.goto ?_
    refine QW.then_g ?_
    have hm : ∀ w, More w0 Φ (f.ent 29 :: B) w → More w0 Φ B w := fun w q => More.mono (fun w m => m.tail) q
    have v1 : View (More w0 Φ (f.ent 29 :: B)) ((f.ob).map fun k => ⟨k, 0, none⟩) f.items.length f.c 3 f.cells := hf0.o.view (by decide) (fun w q => q.2.sublist (List.singleton_sublist.2 (List.mem_cons_self ..)))
    have hit : ItRd (More w0 Φ (f.ent 29 :: B)) [.bool true, .slice none 0 0, sl f.ob 0 f.items.length f.c] (It.mk true [] f.items) := by
      have v0 : View (More w0 Φ (f.ent 29 :: B)) none ([] : List (BitVec 8)).length 0 1 (u8s []) := View.nil
      exact ItRd.mk v0 v1 (hf0.h.mono (ItRd.mono hm))
    refine QW.jump (k := k) (by omega) (l := 2) ⟨f.behind, f.A, f.cb, F, f.ent 29 :: B, ob4, c4, f.cs ++ r4, b5, _, b2, It.mk true [] f.items, hf, (fun _ => hit), hf0.v.mono hm, (fun g hg => (hF g (List.mem_cons_of_mem _ hg)).mono hm), o4'.pop rfl, rfl, rfl, rfl⟩ ⟨rfl, rfl, rfl, rfl, trivial⟩ (fun w m => ?_)
    have m := m.pick [1, 0] 2 rfl rfl
    rw [stC_pop] at m
    exact m.under [_, _, _] _
theorem dec_w2 (w0 : World) (Φ : Ctx) (N : List Ent) (hΦ : ∀ w, Mem w0 w N → Φ w) (res0 : It) (res1 : Nat) (k m : Nat) (hkm : k ≤ m) (L : Slots) (M : List Ent) (h : JD w0 Φ N res0 res1 2 k L M) :
    CW Try.prog 105 (JumpJ 105 w0 (JD w0 Φ N res0 res1) m (DecQ w0 Φ N res0 res1)) w0 (afterL (scopeOf Try.f55.body) 2) L M := by
  obtain ⟨b, A, c, F, B, ob4, c4, r4, b5, cs5, b2, it, hf, hit, vb, hF, o4, h5, rfl, rfl⟩ := h
  replace hit := hit rfl
  rcases k with _ | k
  · rw [dec] at hf; cases hf
  replace hf : dec (k + 1) 2 b it _ = _ := hf
  have m1 := vb.mx
  have m2 := o4.mx
  obtain ⟨Ai, ci, Bi, ei, cells, hcs, vi, wi, ri⟩ := ItRd.opn hit
  subst hcs
  refine CW.seq ?_
  refine CW.seq ?_
  refine CW.region ?_
  refine OW.rv (RV.move rfl) rfl ?_
  refine OW.rv (RV.len rfl rfl) rfl ?_
  refine OW.rv (RV.eql rfl rfl) rfl ?_
  refine OW.slot (.bool (decide (F.length = 0))) (congrArg Value.bool (decide_eq_decide.2 (by omega))) ?_
  refine OW.nil ?_
  refine QW.then_n ?_
  rcases F with _ | ⟨f, F⟩
  · rw [List.map_nil, dec_2n] at hf
    refine CW.is_t rfl rfl ?_
    refine CW.seq ?_
    refine CW.seq ?_
    refine CW.region ?_
    refine OW.rv (RV.move rfl) rfl ?_
    refine OW.rv (RV.len rfl rfl) rfl ?_
    refine OW.rv (RV.gtr rfl rfl) rfl ?_
    refine OW.slot (.bool (decide (0 < b.length))) (congrArg Value.bool (decide_eq_decide.2 (by omega))) ?_
    refine OW.nil ?_
    refine QW.then_n ?_
    by_cases h1 : 0 < b.length
    · replace hf := if_t hf h1
      refine CW.is_t rfl (decide_eq_true h1) ?_
      refine CW.seq ?_
      refine CW.region ?_
      refine OW.rv (RV.assign rfl) rfl ?_
      refine OW.nil ?_
      refine QW.then_n ?_
      refine CW.goto ?_
      refine QW.then_g ?_
      refine QW.then_g ?_
      obtain ⟨e0, e1⟩ := Prod.mk.inj (Option.some.inj hf)
      subst e1
      exact QW.jump (k := 0) (l := 0) (by omega) ⟨b2, e0.symm, (by omega), rfl, rfl⟩ ⟨rfl, rfl, trivial⟩ (fun w m => toBroken m)
    · replace hf := if_f hf h1
      refine CW.is_f rfl (decide_eq_false h1) ?_
      refine CW.skip ?_
      refine QW.then_n ?_
      refine CW.seq ?_
      refine CW.region ?_
      refine OW.rv (RV.loadW rfl (List.Mem.tail _ (List.Mem.head _)) rfl rfl rfl rfl rfl) rfl ?_
      refine OW.rot2 ?_
      refine OW.sv (SV.storeW rfl rfl rfl (by intro u hu; simp at hu; rcases hu with rfl | rfl | rfl <;> rfl) rfl rfl rfl) ?_
      refine OW.rv (RV.assign rfl) rfl ?_
      refine OW.nil ?_
      refine QW.then_n ?_
      refine CW.ret ?_
      refine QW.then_r ?_
      obtain ⟨e0, e1⟩ := Prod.mk.inj (Option.some.inj hf)
      subst e0
      subst e1
      refine QW.jump_r ?_
      refine QW.retG (rs := [.cell 2 29, .tmp 3]) ([.agg [.bool it.list, .slice Ai it.data.length ci, .slice Bi it.items.length ei].toArray, .int .i64 (0 : Int)]) B rfl ?_ rfl ?_ ?_ _ (.inl rfl)
      · exact ⟨⟨_, _, _, _, rfl, (List.Mem.head _), rfl, rfl, rfl, rfl⟩, rfl, trivial⟩
      · exact ⟨B, _, hit, (by omega), rfl, rfl⟩
      · exact (fun w m => m.drop 3)
  · replace hf : dec (k + 1) 2 b it ((f.items, f.behind) :: F.map Frm.pure) = some (res0, res1) := hf
    rw [dec_2c] at hf
    obtain ⟨hg, hf⟩ := some_if hf
    refine CW.is_f rfl rfl ?_
    refine CW.skip ?_
    refine QW.then_n ?_
    have o4' : OwnS ob4 (F.length + 1) c4 2 (stC (f :: F)) r4 := o4
    have h0 : ob4.isSome = true := o4'.isSome (i := F.length) (by decide) (by omega)
    have hf0 := hF f (List.mem_cons_self ..)
    have hl4 : 0 + F.length * 2 + 0 < (stC (f :: F) ++ r4).length := by rw [List.length_append, stC_len, List.length_cons]; omega
    have m3 : F.length + 1 ≤ 140737488355328 := m2
    refine CW.seq ?_
    refine CW.cutJ (fun L' M' => ∃ g : Frm, g.items = f.items ++ [it] ∧ g.behind = f.behind ∧ g.Ok (More w0 Φ B) ∧ L' = [(0, .slice A b.length c), (2, ptr (some b2) 0), (4, sl ob4 0 (F.length + 1) c4), (5, ptr (some b5) 0)] ∧
      M' = (ob4, blk (stC (g :: F) ++ r4) 112) :: (some b5, blk [.bool it.list, .slice Ai it.data.length ci, .slice Bi it.items.length ei] 29) :: (some b2, blk Zc 29) :: ((g :: F).map (Frm.ent 29) ++ (B ++ N))) ?_ ?_
    · rintro L' M' ⟨g, gi, gb, gok, e1, e2⟩
      refine QW.then_n ?_
      refine CW.seq ?_
      refine CW.label ?_
      refine QW.then_n ?_
      refine dec_w3 w0 Φ N hΦ res0 res1 k m (by omega) L' M' ⟨b, A, c, g :: F, B, ob4, c4, r4, b5, _, b2, It.zero, ?_, (fun e => absurd e (by decide)), vb, ?_, o4.swap, rfl, e1, e2⟩
      · show dec k 3 b It.zero ((g.items, g.behind) :: F.map Frm.pure) = some (res0, res1)
        rw [gi, gb]; exact hf
      · intro x hx
        rcases List.mem_cons.1 hx with rfl | hx
        · exact gok
        · exact hF x (List.mem_cons_of_mem _ hx)
    · refine CW.seqJ (fun L' M' => ∃ v : Bool, L' = [(45, .bool v), (0, .slice A b.length c), (2, ptr (some b2) 0), (4, sl ob4 0 (F.length + 1) c4), (5, ptr (some b5) 0)] ∧ M' = (ob4, blk (stC (f :: F) ++ r4) 112) :: (some b5, blk [.bool it.list, .slice Ai it.data.length ci, .slice Bi it.items.length ei] 29) :: (some b2, blk Zc 29) :: (f.ent 29 :: (F.map (Frm.ent 29) ++ (B ++ N)))) ?_ ?_
      · rintro L' M' ⟨v, rfl, rfl⟩
        cases v
        · refine CW.is_f rfl rfl ?_
          refine CW.drawsX ((some b5, blk [.bool it.list, .slice Ai it.data.length ci, .slice Bi it.items.length ei] 29) :: (some b2, blk Zc 29) :: (F.map (Frm.ent 29) ++ (B ++ N))) [13, 16] (fun w m => m.pick [1, 2] 4 rfl rfl) mixed (by kernel_rfl) ?_
          refine XW.rs 0 rfl (by kernel_rfl) rfl (RV.move rfl) rfl ?_
          refine XW.rs 1 rfl (by kernel_rfl) rfl (RV.move rfl) rfl ?_
          refine XW.rs 2 rfl (by kernel_rfl) rfl (RV.len rfl rfl) rfl ?_
          refine XW.rs 3 rfl (by kernel_rfl) rfl (RV.sub rfl rfl (by omega)) rfl ?_
          refine XW.rs 4 rfl (by kernel_rfl) rfl (RV.move rfl) rfl ?_
          refine XW.rs 5 rfl (by kernel_rfl) rfl (RV.move rfl) rfl ?_
          refine XW.rs 6 rfl (by kernel_rfl) rfl (RV.len rfl rfl) rfl ?_
          refine XW.rs 7 rfl (by kernel_rfl) rfl (RV.sub rfl rfl (by omega)) rfl ?_
          refine XW.rs 8 rfl (by kernel_rfl) rfl (RV.idx_os (F.length) rfl rfl (by omega) rfl rfl h0 (by omega)) rfl ?_
          refine XW.rs 9 rfl (by kernel_rfl) rfl (RV.field rfl rfl rfl rfl) rfl ?_
          refine XW.rv 10 rfl (by kernel_rfl) rfl (by kernel_rfl) (RV.load rfl (List.Mem.head _) h0 rfl rfl (stC_at0 F f r4)) rfl ?_
          refine XW.rs 11 rfl (by kernel_rfl) rfl (RV.loadW rfl (List.Mem.head _) rfl rfl rfl rfl rfl) rfl ?_
          refine XW.new 12 rfl (by kernel_rfl) rfl (NV.bsA rfl rfl (by intro x hx; simp at hx; subst hx; rfl) rfl rfl rfl (by decide) (by decide) rfl) rfl (fun b76 => ?_)
          refine XW.mem (M' := ((f.ob, blk (f.cells ++ f.r) 29) :: (some b76, blk ([.bool it.list, .slice Ai it.data.length ci, .slice Bi it.items.length ei] ++ []) 29) :: (ob4, blk (stC (f :: F) ++ r4) 112) :: (some b5, blk [.bool it.list, .slice Ai it.data.length ci, .slice Bi it.items.length ei] 29) :: (some b2, blk Zc 29) :: (F.map (Frm.ent 29) ++ (B ++ N)))) (fun w m => m.pick [4, 0, 1, 2, 3] 5 rfl rfl) (fun w m => m.pick [3, 4] 5 rfl rfl) ?_
          refine XW.appendOwn 13 (s := 3) rfl (by kernel_rfl) rfl rfl rfl rfl rfl rfl hf0.o (fun w m => m.rd0 (List.Mem.tail _ (List.Mem.head _)) (fun e => nomatch e)) rfl (by intro u hu; simp at hu; rcases hu with rfl | rfl | rfl <;> rfl) (fun e => nomatch e) (by decide) (by decide) hg rfl ((f.items ++ [it]).length) (f.cells ++ [.bool it.list, .slice Ai it.data.length ci, .slice Bi it.items.length ei]) (by simp) rfl (fun w m => m.pick [2, 3] 4 rfl rfl) rfl (fun ob77 r77 c77 o77 => ?_)
          refine XW.rs 14 rfl (by kernel_rfl) rfl (RV.idx_os (F.length) rfl rfl (by omega) rfl rfl h0 (by omega)) rfl ?_
          refine XW.rs 15 rfl (by kernel_rfl) rfl (RV.field rfl rfl rfl rfl) rfl ?_
          refine XW.mem (M' := ((ob4, blk (stC (f :: F) ++ r4) 112) :: (ob77, blk ((f.cells ++ [.bool it.list, .slice Ai it.data.length ci, .slice Bi it.items.length ei]) ++ r77) 29) :: (some b5, blk [.bool it.list, .slice Ai it.data.length ci, .slice Bi it.items.length ei] 29) :: (some b2, blk Zc 29) :: (F.map (Frm.ent 29) ++ (B ++ N)))) (fun w m => m.pick [2, 0, 3, 4] 5 rfl rfl) (fun w m => m.pick [2, 3] 4 rfl rfl) ?_
          refine XW.sv 16 rfl (by kernel_rfl) (SV.store rfl h0 rfl rfl rfl hl4) (fun w m => m.pick [2, 3] 4 rfl rfl) ?_
          refine XW.cells (stC ((⟨ob77, c77, f.cells ++ [.bool it.list, .slice Ai it.data.length ci, .slice Bi it.items.length ei], r77, f.A, f.cb, f.items ++ [it], f.behind⟩ : Frm) :: F) ++ r4) (show (stC (f :: F) ++ r4).set (0 + F.length * 2 + 0) (sl ob77 0 (f.items ++ [it]).length c77) = stC ((⟨ob77, c77, f.cells ++ [.bool it.list, .slice Ai it.data.length ci, .slice Bi it.items.length ei], r77, f.A, f.cb, f.items ++ [it], f.behind⟩ : Frm) :: F) ++ r4 from stC_set0 F f ⟨ob77, c77, f.cells ++ [.bool it.list, .slice Ai it.data.length ci, .slice Bi it.items.length ei], r77, f.A, f.cb, f.items ++ [it], f.behind⟩ r4 rfl rfl rfl) ?_
          refine XW.nil (by kernel_rfl) ?_
          refine QW.join ⟨⟨ob77, c77, f.cells ++ [.bool it.list, .slice Ai it.data.length ci, .slice Bi it.items.length ei], r77, f.A, f.cb, f.items ++ [it], f.behind⟩, rfl, rfl, ⟨o77, hf0.h.app (Reps.one hit), hf0.v⟩, rfl, rfl⟩ ⟨rfl, rfl, rfl, rfl, trivial⟩ (fun w m => ?_)
          exact m.pick [0, 2, 3, 1] 4 rfl rfl
        · refine CW.is_t rfl rfl ?_
          refine CW.seq ?_
          refine CW.drawsU 14 mixed (by kernel_rfl) rfl ?_
          refine UW.rv 0 rfl (by kernel_rfl) rfl (RV.move rfl) rfl ?_
          refine UW.rv 1 rfl (by kernel_rfl) rfl (RV.move rfl) rfl ?_
          refine UW.rv 2 rfl (by kernel_rfl) rfl (RV.len rfl rfl) rfl ?_
          refine UW.rv 3 rfl (by kernel_rfl) rfl (RV.sub rfl rfl (by omega)) rfl ?_
          refine UW.rv 4 rfl (by kernel_rfl) rfl (RV.move rfl) rfl ?_
          refine UW.rv 5 rfl (by kernel_rfl) rfl (RV.move rfl) rfl ?_
          refine UW.rv 6 rfl (by kernel_rfl) rfl (RV.len rfl rfl) rfl ?_
          refine UW.rv 7 rfl (by kernel_rfl) rfl (RV.sub rfl rfl (by omega)) rfl ?_
          refine UW.rv 8 rfl (by kernel_rfl) rfl (RV.idx_os (F.length) rfl rfl (by omega) rfl rfl h0 (by omega)) rfl ?_
          refine UW.rv 9 rfl (by kernel_rfl) rfl (RV.field rfl rfl rfl rfl) rfl ?_
          refine UW.rv 10 rfl (by kernel_rfl) rfl (RV.load rfl (List.Mem.head _) h0 rfl rfl (stC_at0 F f r4)) rfl ?_
          refine UW.rv 11 rfl (by kernel_rfl) rfl (RV.loadW rfl (List.Mem.tail _ (List.Mem.head _)) rfl rfl rfl rfl rfl) rfl ?_
          refine UW.rv 12 rfl (by kernel_rfl) rfl (RV.len rfl rfl) rfl ?_
          refine UW.new 13 rfl (by kernel_rfl) rfl (NV.bsA (cs := Zc) rfl rfl (by intro x hx; simp at hx; subst hx; rfl) rfl rfl rfl (by decide) (by decide) rfl) rfl (fun b59 => ?_)
          refine UW.nil (by kernel_rfl) ?_
          refine OW.mem (M' := ((f.ob, blk (f.cells ++ f.r) 29) :: (some b59, blk (Zc ++ []) 29) :: (ob4, blk (stC (f :: F) ++ r4) 112) :: (some b5, blk [.bool it.list, .slice Ai it.data.length ci, .slice Bi it.items.length ei] 29) :: (some b2, blk Zc 29) :: (F.map (Frm.ent 29) ++ (B ++ N)))) (fun w m => m.pick [4, 0, 1, 2, 3] 5 rfl rfl) ?_
          refine OW.appendOwn (s := 3) rfl rfl rfl rfl rfl rfl hf0.o (fun w m => m.rd0 (List.Mem.tail _ (List.Mem.head _)) (fun e => nomatch e)) rfl (by intro u hu; simp at hu; rcases hu with rfl | rfl | rfl <;> rfl) (fun e => nomatch e) (by decide) (by decide) hg rfl rfl ((f.items ++ [it]).length) (f.cells ++ Zc) (by simp) rfl (fun ob60 r60 c60 o60 => ?_)
          refine OW.rv (RV.idx_os (F.length) rfl rfl (by omega) rfl rfl h0 (by omega)) rfl ?_
          refine OW.rv (RV.field rfl rfl rfl rfl) rfl ?_
          refine OW.rot2 ?_
          refine OW.sv (SV.store rfl h0 rfl rfl rfl hl4) ?_
          refine OW.cells (stC ((⟨ob60, c60, f.cells ++ [.bool it.list, .slice Ai it.data.length ci, .slice Bi it.items.length ei], r60, f.A, f.cb, f.items ++ [it], f.behind⟩ : Frm) :: F) ++ r4) (show (stC (f :: F) ++ r4).set (0 + F.length * 2 + 0) (sl ob60 0 (f.items ++ [it]).length c60) = stC ((⟨ob60, c60, f.cells ++ [.bool it.list, .slice Ai it.data.length ci, .slice Bi it.items.length ei], r60, f.A, f.cb, f.items ++ [it], f.behind⟩ : Frm) :: F) ++ r4 from stC_set0 F f ⟨ob60, c60, f.cells ++ [.bool it.list, .slice Ai it.data.length ci, .slice Bi it.items.length ei], r60, f.A, f.cb, f.items ++ [it], f.behind⟩ r4 rfl rfl rfl) ?_
          refine OW.nil ?_
          refine QW.then_n ?_
          refine CW.region ?_
          have hlen : (f.items ++ [it]).length = f.items.length + 1 := by simp
          have h60 : ob60.isSome = true := o60.isSome (i := f.items.length) (by decide) (by omega)
          refine OW.rv (RV.idx_os (f.items.length) rfl rfl rfl rfl rfl h60 (by omega)) rfl ?_
          refine OW.rot1 ?_
          have hc3 := hf0.o.n
          refine OW.sv (SV.storeAs rfl h60 rfl (by intro u hu; simp at hu; rcases hu with rfl | rfl | rfl <;> rfl) rfl rfl (show 0 + f.items.length * 3 + 3 ≤ _ by simp only [List.length_append, List.length_cons, List.length_nil]; omega)) ?_
          have esp : spl ((f.cells ++ Zc) ++ r60) (0 + f.items.length * 3) [.bool it.list, .slice Ai it.data.length ci, .slice Bi it.items.length ei] = (f.cells ++ [.bool it.list, .slice Ai it.data.length ci, .slice Bi it.items.length ei]) ++ r60 := spl_last f.cells Zc [.bool it.list, .slice Ai it.data.length ci, .slice Bi it.items.length ei] r60 (f.items.length * 3) (by omega) rfl
          refine OW.cells _ esp ?_
          refine OW.nil ?_
          refine QW.join ⟨⟨ob60, c60, f.cells ++ [.bool it.list, .slice Ai it.data.length ci, .slice Bi it.items.length ei], r60, f.A, f.cb, f.items ++ [it], f.behind⟩, rfl, rfl, ⟨o60.same (by simp) rfl, hf0.h.app (Reps.one hit), hf0.v⟩, rfl, rfl⟩ ⟨rfl, rfl, rfl, rfl, trivial⟩ (fun w m => ?_)
          exact m.pick [1, 3, 4, 0] 5 rfl rfl
      · refine CW.drawsA mixed ?_
        refine AW.one 0 (by kernel_rfl) (AO.alloc (l := [.bool false]) rfl rfl rfl rfl (fun b44 => ?_))
        refine AW.two 1 2 (by kernel_rfl) ?_ ?_
        · refine AO.sv rfl (SV.store rfl rfl rfl rfl rfl (by simp)) ?_
          refine AW.one 2 (by kernel_rfl) (AO.sv rfl (SV.store rfl rfl rfl rfl rfl (by simp)) ?_)
          refine AW.one 3 (by kernel_rfl) (AO.rv rfl (RV.load (v := .bool false) rfl (List.Mem.head _) rfl rfl rfl rfl) rfl ?_)
          refine AW.nil (by kernel_rfl) ?_
          exact QW.join ⟨false, rfl, rfl⟩ ⟨rfl, rfl, rfl, rfl, rfl, trivial⟩ (fun w m => m.tail)
        · refine AO.sv rfl (SV.store rfl rfl rfl rfl rfl (by simp)) ?_
          refine AW.one 1 (by kernel_rfl) (AO.sv rfl (SV.store rfl rfl rfl rfl rfl (by simp)) ?_)
          refine AW.one 3 (by kernel_rfl) (AO.rv rfl (RV.load (v := .bool true) rfl (List.Mem.head _) rfl rfl rfl rfl) rfl ?_)
          refine AW.nil (by kernel_rfl) ?_
          exact QW.join ⟨true, rfl, rfl⟩ ⟨rfl, rfl, rfl, rfl, rfl, trivial⟩ (fun w m => m.tail)
theorem dec_w1 (w0 : World) (Φ : Ctx) (N : List Ent) (hΦ : ∀ w, Mem w0 w N → Φ w) (res0 : It) (res1 : Nat) (k m : Nat) (hkm : k ≤ m) (L : Slots) (M : List Ent) (h : JD w0 Φ N res0 res1 1 k L M) :
    CW Try.prog 105 (JumpJ 105 w0 (JD w0 Φ N res0 res1) m (DecQ w0 Φ N res0 res1)) w0 (afterL (scopeOf Try.f55.body) 1) L M := by
  obtain ⟨b, A, c, F, B, ob4, c4, r4, b5, cs5, b2, it, hf, -, vb, hF, o4, h5, rfl, rfl⟩ := h
  rcases k with _ | k
  · rw [dec] at hf; cases hf
  replace hf : dec (k + 1) 1 b it _ = _ := hf
  rw [dec_1] at hf
  have m1 := vb.mx
  have m2 := o4.mx
  obtain ⟨⟨x1, x2, x3, x4⟩, hx, hf⟩ := some_bind hf
  dsimp only at hf
  refine CW.seq ?_
  refine CW.seq ?_
  refine CW.region ?_
  refine OW.rv (RV.move rfl) rfl ?_
  refine OW.callG Try.call75 rfl (rlp_cut_does w0 (More w0 Φ B) _ (fun w m => More.low hΦ [_, _, _] _ m) A c b x1 x2 x3 x4 vb hx) rfl rfl ?_
  rintro L3 M3 ⟨B3, Ar1, kr1, Ar2, kr2, v1, v2, bx, e1, e2⟩
  rw [e1, e2]
  clear e1 e2 L3 M3
  refine OW.mem (M' := ((ob4, blk (stC F ++ r4) 112) :: (some b5, blk cs5 29) :: (some b2, blk Zc 29) :: (F.map (Frm.ent 29) ++ ((B3 ++ B) ++ N)))) (fun w m => Mem.deep [_, _, _] _ m) ?_
  replace v1 := v1.mono (Ψ := More w0 Φ (B3 ++ B)) (fun w q => More.flat q)
  replace v2 := v2.mono (Ψ := More w0 Φ (B3 ++ B)) (fun w q => More.flat q)
  replace hF : ∀ f ∈ F, f.Ok (More w0 Φ (B3 ++ B)) := fun f hf => (hF f hf).mono (fun w q => More.mono (fun w m => m.appR) q)
  have m3 := v1.mx
  have m4 := v2.mx
  refine OW.rv (RV.move rfl) rfl ?_
  refine OW.rv (RV.extract rfl rfl) rfl ?_
  refine OW.rv (RV.extract rfl rfl) rfl ?_
  refine OW.rv (RV.extract rfl rfl) rfl ?_
  refine OW.rv (RV.extract rfl rfl) rfl ?_
  refine OW.rv (RV.assign rfl) rfl ?_
  refine OW.rv (RV.assign rfl) rfl ?_
  refine OW.rv (RV.assign rfl) rfl ?_
  refine OW.rv (RV.assign rfl) rfl ?_
  refine OW.nil ?_
  refine QW.then_n ?_
  refine CW.seq ?_
  refine CW.region ?_
  refine OW.rv (RV.move rfl) rfl ?_
  refine OW.rv (RV.neq rfl rfl) rfl ?_
  refine OW.slot (.bool (!decide (x4 = 0))) (congrArg (fun b => Value.bool (!b)) (decide_eq_decide.2 (by omega))) ?_
  refine OW.nil ?_
  refine QW.then_n ?_
  by_cases h4 : x4 = 0
  · replace hf := if_t hf h4
    refine CW.is_f rfl (congrArg (fun b => !b) (decide_eq_true h4)) ?_
    refine CW.skip ?_
    refine QW.then_n ?_
    refine CW.seq ?_
    refine CW.seq ?_
    refine CW.region ?_
    refine OW.rv (RV.move rfl) rfl ?_
    refine OW.rv (RV.not rfl) rfl ?_
    refine OW.nil ?_
    refine QW.then_n ?_
    by_cases h1 : x1 = true
    · replace hf := if_t hf h1
      refine CW.is_f rfl (congrArg (fun b => !b) h1) ?_
      refine CW.skip ?_
      refine QW.then_n ?_
      refine CW.seq ?_
      refine CW.seq ?_
      refine CW.region ?_
      refine OW.rv (RV.move rfl) rfl ?_
      refine OW.rv (RV.len rfl rfl) rfl ?_
      refine OW.rv (RV.eql rfl rfl) rfl ?_
      refine OW.slot (.bool (decide ((F.map Frm.pure).length = 1024))) (congrArg Value.bool (decide_eq_decide.2 (by rw [List.length_map]; omega))) ?_
      refine OW.nil ?_
      refine QW.then_n ?_
      by_cases h2 : (F.map Frm.pure).length = 1024
      · replace hf := if_t hf h2
        refine CW.is_t rfl (decide_eq_true h2) ?_
        refine CW.seq ?_
        refine CW.region ?_
        refine OW.rv (RV.assign rfl) rfl ?_
        refine OW.nil ?_
        refine QW.then_n ?_
        refine CW.goto ?_
        refine QW.then_g ?_
        obtain ⟨e0, e1⟩ := Prod.mk.inj (Option.some.inj hf)
        subst e1
        exact QW.jump (k := 0) (l := 0) (by omega) ⟨b2, e0.symm, (by omega), rfl, rfl⟩ ⟨rfl, rfl, trivial⟩ (fun w m => toBroken m)
      · replace hf := if_f hf h2
        refine CW.is_f rfl (decide_eq_false h2) ?_
        refine CW.skip ?_
        refine QW.then_n ?_
        obtain ⟨hg, hf⟩ := some_if hf
        rw [List.length_map] at hg
        refine CW.seq ?_
        refine CW.region ?_
        refine OW.rv (RV.move rfl) rfl ?_
        refine OW.rv (RV.move rfl) rfl ?_
        refine OW.rv (RV.buildSt (l := [.slice none 0 0, .slice none 0 0]) (cs := [.slice none 0 0, .slice Ar2 x3.length kr2]) [(1, [.slice Ar2 x3.length kr2])] rfl rfl rfl rfl rfl rfl rfl) rfl ?_
        refine OW.ofN (NV.bsA rfl rfl (by intro x hx; simp at hx; subst hx; rfl) rfl rfl rfl (by decide) (by decide) rfl) rfl (fun b33 => ?_)
        refine OW.mem (M' := ((ob4, blk (stC F ++ r4) 112) :: (some b33, blk ([.slice none 0 0, .slice Ar2 x3.length kr2] ++ []) 112) :: (some b5, blk cs5 29) :: (some b2, blk Zc 29) :: (F.map (Frm.ent 29) ++ ((B3 ++ B) ++ N)))) (fun w m => m.pick [1, 0, 2, 3] 4 rfl rfl) ?_
        refine OW.appendOwn (s := 2) rfl rfl rfl rfl rfl rfl o4 (fun w m => m.rd0 (List.Mem.tail _ (List.Mem.head _)) (fun e => nomatch e)) rfl (by intro u hu; simp at hu; rcases hu with rfl | rfl <;> rfl) (fun e => nomatch e) (by decide) (by decide) hg rfl rfl (((⟨none, 0, [], [], Ar2, kr2, [], x3⟩ : Frm) :: F).length) (stC ((⟨none, 0, [], [], Ar2, kr2, [], x3⟩ : Frm) :: F)) (by simp) rfl (fun ob34 r34 c34 o34 => ?_)
        refine OW.rv (RV.assign rfl) rfl ?_
        refine OW.nil ?_
        refine QW.then_n ?_
        refine CW.seq ?_
        refine CW.region ?_
        refine OW.rv (RV.move rfl) rfl ?_
        refine OW.rv (RV.assign rfl) rfl ?_
        refine OW.nil ?_
        refine QW.then_n ?_
        refine CW.seq ?_
        refine CW.region ?_
        refine OW.rv (RV.buildSt (l := Zc) (cs := [.bool true, .slice none 0 0, .slice none 0 0]) [(0, [.bool true])] rfl rfl rfl rfl rfl rfl rfl) rfl ?_
        refine OW.rot2 ?_
        refine OW.sv (SV.storeW rfl rfl rfl (by intro u hu; simp at hu; rcases hu with rfl | rfl | rfl <;> rfl) rfl h5 rfl) ?_
        refine OW.nil ?_
        refine QW.then_n ?_
        refine CW.seq ?_
        refine CW.goto ?_
        refine QW.then_g ?_
        refine QW.jump (k := k) (l := 3) (by omega) ⟨x2, Ar1, kr1, ⟨none, 0, [], [], Ar2, kr2, [], x3⟩ :: F, B3 ++ B, ob34, c34, r34, b5, [.bool true, .slice none 0 0, .slice none 0 0], b2, It.zero, hf, (fun e => absurd e (by decide)), v1, ?_, o34, rfl, rfl, rfl⟩ ⟨rfl, rfl, rfl, rfl, trivial⟩ (fun w m => ?_)
        · intro x hx
          rcases List.mem_cons.1 hx with rfl | hx
          · exact ⟨OwnS.nil, Reps.nil, v2⟩
          · exact hF x hx
        · have m := m.nil_ent (blk ([] ++ []) 29)
          exact m.pick [2, 1, 4, 0] 5 rfl rfl
    · replace hf := if_f hf h1
      refine CW.is_t rfl (congrArg (fun b => !b) (Bool.eq_false_iff.2 h1)) ?_
      obtain ⟨x, hx5, hf⟩ := some_bind hf
      refine CW.seq ?_
      refine CW.region ?_
      refine OW.rv (RV.move rfl) rfl ?_
      refine OW.callG Try.call18 rfl (rlp_Text_does w0 (More w0 Φ (B3 ++ B)) _ (fun w m => More.low hΦ [_, _, _] _ m) Ar1 kr1 x2 x v1 hx5) rfl rfl ?_
      rintro L3 M3 ⟨B4, cr, hr, e1, e2⟩
      rw [e1, e2]
      clear e1 e2 L3 M3
      refine OW.mem (M' := ((ob4, blk (stC F ++ r4) 112) :: (some b5, blk cs5 29) :: (some b2, blk Zc 29) :: (F.map (Frm.ent 29) ++ ((B4 ++ (B3 ++ B)) ++ N)))) (fun w m => Mem.deep [_, _, _] _ m) ?_
      replace hr := ItRd.mono (Ψ := More w0 Φ (B4 ++ (B3 ++ B))) (fun w q => More.flat q) _ _ hr
      replace v2 := v2.mono (Ψ := More w0 Φ (B4 ++ (B3 ++ B))) (fun w q => More.mono (fun w m => m.appR) q)
      replace hF : ∀ f ∈ F, f.Ok (More w0 Φ (B4 ++ (B3 ++ B))) := fun f hf => (hF f hf).mono (fun w q => More.mono (fun w m => m.appR) q)
      have hl := ItRd.len _ _ hr
      have h1c := ItRd.one _ _ hr
      refine OW.rot1 ?_
      refine OW.sv (SV.storeW rfl rfl rfl h1c rfl h5 hl) ?_
      refine OW.nil ?_
      refine QW.then_n ?_
      refine CW.seq ?_
      refine CW.region ?_
      refine OW.rv (RV.move rfl) rfl ?_
      refine OW.rv (RV.assign rfl) rfl ?_
      refine OW.nil ?_
      refine QW.then_n ?_
      refine CW.goto ?_
      refine QW.then_g ?_
      exact QW.jump (k := k) (l := 2) (by omega) ⟨x3, Ar2, kr2, F, B4 ++ (B3 ++ B), ob4, c4, r4, b5, cr, b2, x, hf, (fun _ => hr), v2, hF, o4, hl, rfl, rfl⟩ ⟨rfl, rfl, rfl, rfl, trivial⟩ (fun w m => m.pick [1, 0] 2 rfl rfl)
  · replace hf := if_f hf h4
    refine CW.is_t rfl (congrArg (fun b => !b) (decide_eq_false h4)) ?_
    refine CW.goto ?_
    refine QW.then_g ?_
    obtain ⟨e0, e1⟩ := Prod.mk.inj (Option.some.inj hf)
    subst e1
    exact QW.jump (k := 0) (l := 0) (by omega) ⟨b2, e0.symm, bx, rfl, rfl⟩ ⟨rfl, rfl, trivial⟩ (fun w m => toBroken m)
theorem rlp_Decode_does (w0 : World) (Φ : Ctx) (N : List Ent) (hΦ : ∀ w, Mem w0 w N → Φ w) (A0_ : Option Addr) (c0_ : Nat) (a0 : List (BitVec 8)) (res0 : It) (res1 : Nat) (va0 : View Φ A0_ a0.length c0_ 1 (u8s a0)) (hf : rlp_Decode a0 = some (res0, res1)) : DoesG Try.prog 55 [.slice A0_ a0.length c0_] w0 [] N (fun v G => ∃ B : List Ent, ∃ cr0 : List Value, (ItRd (More w0 Φ B) cr0 res0) ∧ (res1 ≤ 9223372036854775807) ∧ v = .tuple #[.agg cr0.toArray, .int .i64 ((res1 : Nat) : Int)] ∧ G = B) := by
  unfold rlp_Decode at hf
  have m1 := va0.mx
  refine DoesG.enter Try.func55 rfl Try.ntmps55 rfl (M := N) rfl ?_
  refine CW.seq ?_
  refine CW.region ?_
  refine OW.alloc (l := Zc) rfl rfl rfl (fun b2 => ?_)
  refine OW.rv (RV.assign rfl) rfl ?_
  refine OW.nil ?_
  refine QW.then_n ?_
  refine CW.scopeJ (JD w0 Φ N res0 res1) (4 * a0.length + 9) ?_ ?_
  · refine CW.seq ?_
    refine CW.region ?_
    refine OW.rv (RV.assign rfl) rfl ?_
    refine OW.nil ?_
    refine QW.then_n ?_
    refine CW.seq ?_
    refine CW.region ?_
    refine OW.alloc (l := Zc) rfl rfl rfl (fun b5 => ?_)
    refine OW.nil ?_
    refine QW.then_n ?_
    refine CW.seq ?_
    refine CW.region ?_
    refine OW.rv (RV.assign rfl) rfl ?_
    refine OW.nil ?_
    refine QW.then_n ?_
    refine CW.seq ?_
    refine CW.region ?_
    refine OW.rv (RV.assign rfl) rfl ?_
    refine OW.rv (RV.assign rfl) rfl ?_
    refine OW.nil ?_
    refine QW.then_n ?_
    refine CW.seq ?_
    refine CW.region ?_
    refine OW.rv (RV.assign rfl) rfl ?_
    refine OW.nil ?_
    refine QW.then_n ?_
    refine CW.seq ?_
    refine CW.seq ?_
    refine CW.region ?_
    refine OW.rv (RV.move rfl) rfl ?_
    refine OW.rv (RV.len rfl rfl) rfl ?_
    refine OW.rv (RV.gtr rfl rfl) rfl ?_
    refine OW.slot (.bool (decide (16777216 < a0.length))) (congrArg Value.bool (decide_eq_decide.2 (by omega))) ?_
    refine OW.nil ?_
    refine QW.then_n ?_
    by_cases h1 : 16777216 < a0.length
    · replace hf := if_t hf h1
      refine CW.is_t rfl (decide_eq_true h1) ?_
      refine CW.goto ?_
      refine QW.then_g ?_
      obtain ⟨e0, e1⟩ := Prod.mk.inj (Option.some.inj hf)
      subst e1
      exact QW.jump (k := 0) (l := 0) (by omega) ⟨b2, e0.symm, (by omega), rfl, rfl⟩ ⟨rfl, rfl, trivial⟩ (fun w m => m.tail)
    · replace hf := if_f hf h1
      refine CW.is_f rfl (decide_eq_false h1) ?_
      refine CW.skip ?_
      refine QW.then_n ?_
      refine CW.seq ?_
      refine CW.label ?_
      refine QW.then_n ?_
      refine CW.mem (M' := ((none, blk ([] ++ []) 112) :: (some b5, blk Zc 29) :: (some b2, blk Zc 29) :: N)) (fun w m => m.nil_ent _) ?_
      refine CW.sub (L' := [(0, .slice A0_ a0.length c0_), (2, ptr (some b2) 0), (4, sl none 0 0 0), (5, ptr (some b5) 0)]) ⟨rfl, rfl, rfl, rfl, trivial⟩ ?_
      exact dec_w1 w0 Φ N hΦ res0 res1 (4 * a0.length + 8) _ (by omega) _ _ ⟨a0, A0_, c0_, [], [], none, 0, [], b5, Zc, b2, It.zero, hf, (fun e => absurd e (by decide)), va0.mono (fun w q => q.1), (fun f hf => nomatch hf), OwnS.nil, rfl, rfl, rfl⟩
  · intro l k L M h
    match l, h with
    | 0, ⟨b2, e0, hb, e1, e2⟩ =>
      subst e0
      subst e1
      subst e2
      refine ⟨_, rfl, ?_⟩
      refine CW.seq ?_
      refine CW.skip ?_
      refine QW.then_n ?_
      refine CW.seq ?_
      refine CW.region ?_
      refine OW.rv (RV.buildSt (l := Zc) (cs := Zc) [] rfl rfl rfl rfl rfl rfl rfl) rfl ?_
      refine OW.rv (RV.move rfl) rfl ?_
      refine OW.sv (SV.storeW rfl rfl rfl (by intro u hu; simp at hu; rcases hu with rfl | rfl | rfl <;> rfl) rfl rfl rfl) ?_
      refine OW.rv (RV.assign rfl) rfl ?_
      refine OW.nil ?_
      refine QW.then_n ?_
      refine CW.ret ?_
      refine QW.jump_r ?_
      have v0 : View (More w0 Φ []) none ([] : List (BitVec 8)).length 0 1 (u8s []) := View.nil
      have v1 : View (More w0 Φ []) none ([] : List (It)).length 0 3 [] := View.nil
      refine QW.retG (rs := [.cell 2 29, .tmp 3]) ([.agg Zc.toArray, .int .i64 ((res1 : Nat) : Int)]) [] rfl ?_ rfl ?_ ?_ _ (.inl rfl)
      · exact ⟨⟨_, _, _, _, rfl, (List.Mem.head _), rfl, rfl, rfl, rfl⟩, rfl, trivial⟩
      · exact ⟨[], Zc, (ItRd.mk v0 v1 (Reps.nil)), hb, rfl, rfl⟩
      · exact (fun w m => m.tail)
    | 1, h =>
      refine ⟨_, rfl, ?_⟩
      refine CW.seq ?_
      refine CW.skip ?_
      refine QW.then_n ?_
      exact dec_w1 w0 Φ N hΦ res0 res1 k k (Nat.le_refl _) L M h
    | 2, h =>
      refine ⟨_, rfl, ?_⟩
      refine CW.seq ?_
      refine CW.skip ?_
      refine QW.then_n ?_
      exact dec_w2 w0 Φ N hΦ res0 res1 k k (Nat.le_refl _) L M h
    | 3, h =>
      refine ⟨_, rfl, ?_⟩
      refine CW.seq ?_
      refine CW.skip ?_
      refine QW.then_n ?_
      exact dec_w3 w0 Φ N hΦ res0 res1 k k (Nat.le_refl _) L M h
    | l + 4, ⟨b, A, c, F, B, ob4, c4, r4, b5, cs5, b2, it, hf, _⟩ =>
      rcases k with _ | k
      · rw [dec] at hf; cases hf
      · exact absurd hf (by simp [dec])

theorem waybilllaw07_RlpStrict_does (w0 : World) (Φ : Ctx) (N : List Ent) (hΦ : ∀ w, Mem w0 w N → Φ w) (A0_ : Option Addr) (c0_ : Nat) (a0 : List (BitVec 8)) (a1 : Int) (a2 : BitVec 8) (res0 : Bool) (va0 : View Φ A0_ a0.length c0_ 1 (u8s a0)) (ba1 : -9223372036854775808 ≤ a1 ∧ a1 ≤ 9223372036854775807) (hf : waybilllaw07_RlpStrict a0 a1 a2 = some res0) : DoesG Try.prog 9 [.slice A0_ a0.length c0_, .int .i64 a1, U8 a2] w0 [] N (fun v G => v = .bool res0) := by
  unfold waybilllaw07_RlpStrict at hf
  replace va0 := va0.mono (Ψ := More w0 Φ []) (fun w q => q.1)
  have m1 := va0.mx
  refine DoesG.enter Try.func9 rfl Try.ntmps9 rfl (M := (([] ++ N))) rfl ?_
  refine CW.seq ?_
  refine CW.region ?_
  refine OW.rv (RV.assign rfl) rfl ?_
  refine OW.nil ?_
  refine QW.then_n ?_
  refine CW.seq ?_
  refine CW.region ?_
  refine OW.ofN (NV.bs1 rfl rfl rfl rfl rfl rfl) rfl (fun b2 => ?_)
  refine OW.mem (M' := (((some b2), blk ((u8s ([128#8] : List (BitVec 8))) ++ []) 5) :: ([] ++ N))) (fun w m => by first | exact m | simpa [u8s] using m) ?_
  have o3 : OwnS (some b2) ([128#8] : List (BitVec 8)).length 1 1 (u8s ([128#8] : List (BitVec 8))) [] := ⟨by simp [u8s], by simp [u8s], (fun h => nomatch h), by simp⟩
  refine OW.slot (sl (some b2) 0 ([128#8] : List (BitVec 8)).length 1) (rfl) ?_
  refine OW.mem (M' := ((((some b2), blk ((u8s ([128#8] : List (BitVec 8))) ++ []) 5) :: []) ++ N)) (fun w m => m.pick [0] 1 rfl rfl) ?_
  replace va0 := va0.mono (Ψ := More w0 Φ (((some b2), blk ((u8s ([128#8] : List (BitVec 8))) ++ []) 5) :: [])) (fun w q => More.mono (fun w m => (m).tail) q)
  have v4 : View (More w0 Φ (((some b2), blk ((u8s ([128#8] : List (BitVec 8))) ++ []) 5) :: [])) (((some b2)).map fun k => ⟨k, 0, none⟩) ([128#8] : List (BitVec 8)).length 1 1 (u8s ([128#8] : List (BitVec 8))) := o3.view (by decide) (fun w q => q.2.sublist (List.singleton_sublist.2 (List.mem_cons_self ..)))
  obtain ⟨⟨x6, x7⟩, hx5, hf⟩ := some_bind hf
  try dsimp only at hf
  refine OW.callG Try.call55 rfl (rlp_Decode_does w0 (More w0 Φ (((some b2), blk ((u8s ([128#8] : List (BitVec 8))) ++ []) 5) :: [])) (((((some b2), blk ((u8s ([128#8] : List (BitVec 8))) ++ []) 5) :: []) ++ N)) (fun w m => More.of hΦ 0 m rfl) (((some b2)).map fun k => ⟨k, 0, none⟩) 1 ([128#8] : List (BitVec 8)) x6 x7 v4 hx5) rfl rfl ?_
  rintro L12 M13 ⟨B8, cs9, h10, b11, e14, e15⟩
  rw [e14, e15]
  clear e14 e15 L12 M13
  refine OW.mem (M' := (((B8 ++ (((some b2), blk ((u8s ([128#8] : List (BitVec 8))) ++ []) 5) :: [])) ++ N))) (fun w m => by have h := Mem.sinkAt (A := B8) m 0 0 rfl rfl; exact h) ?_
  replace va0 := va0.mono (Ψ := More w0 Φ (B8 ++ (((some b2), blk ((u8s ([128#8] : List (BitVec 8))) ++ []) 5) :: []))) (fun w q => More.mono (fun w m => (m).appR) q)
  replace v4 := v4.mono (Ψ := More w0 Φ (B8 ++ (((some b2), blk ((u8s ([128#8] : List (BitVec 8))) ++ []) 5) :: []))) (fun w q => More.mono (fun w m => (m).appR) q)
  replace h10 := ItRd.mono (Ψ := (More w0 Φ (B8 ++ (((some b2), blk ((u8s ([128#8] : List (BitVec 8))) ++ []) 5) :: [])))) (fun w q => More.flat q) _ _ h10
  have h25 := h10
  obtain ⟨A16, c17, A19, c20, cs22, e24, v18, v21, h23⟩ := ItRd.opn h10
  subst e24
  have m26 := v18.mx
  have m27 := v21.mx
  have m28 := v18.mx
  have m29 := v21.mx
  refine OW.rv (RV.move rfl) rfl ?_
  refine OW.rv (RV.extract rfl rfl) rfl ?_
  refine OW.slot (.agg [.bool (x6.list), .slice A16 x6.data.length c17, .slice A19 x6.items.length c20].toArray) (rfl) ?_
  refine OW.rv (RV.extract rfl rfl) rfl ?_
  refine OW.slot (.int .i64 ((x7 : Nat) : Int)) (rfl) ?_
  refine OW.alloc (l := [.bool false, .slice none 0 0, .slice none 0 0]) rfl rfl rfl (fun b30 => ?_)
  refine OW.sv (SV.storeW rfl rfl rfl (by intro u hu; simp at hu; rcases hu with rfl | rfl | rfl <;> rfl) rfl rfl rfl) ?_
  refine OW.rv (RV.assign rfl) rfl ?_
  refine OW.nil ?_
  refine QW.then_n ?_
  refine CW.seq ?_
  refine CW.seq ?_
  obtain ⟨q31, hq32, hf⟩ := some_bind hf
  refine CW.cutJ (fun L' M' => ∃ p33 : Bool, q31 = p33 ∧ L' = [(0, .slice A0_ a0.length c0_), (1, .int .i64 a1), (2, U8 a2), (28, .bool (p33))] ∧ M' = (((B8 ++ (((some b2), blk ((u8s ([128#8] : List (BitVec 8))) ++ []) 5) :: [])) ++ N))) ?_ ?_
  · rintro L35 M36 ⟨p33, e34, e37, e38⟩
    rw [e37, e38]
    clear e37 e38 L35 M36
    clear hq32
    rw [e34] at hf
    clear e34
    try dsimp only at hf
    refine QW.then_n ?_
    by_cases h39 : p33 = true
    · replace hf := if_t hf h39
      refine CW.is_t rfl (h39) ?_
      refine CW.seq ?_
      refine CW.region ?_
      refine OW.rv (RV.assign rfl) rfl ?_
      refine OW.nil ?_
      refine QW.then_n ?_
      refine CW.ret ?_
      refine QW.then_r ?_
      have e0 := Option.some.inj hf
      subst e0
      refine QW.retG (rs := [.tmp 6]) ([.bool false]) ((B8 ++ (((some b2), blk ((u8s ([128#8] : List (BitVec 8))) ++ []) 5) :: []))) rfl ?_ rfl ?_ ?_ _ (.inl rfl)
      · exact ⟨rfl, trivial⟩
      · exact rfl
      · exact (fun w m => m)
    · replace hf := if_f hf h39
      refine CW.is_f rfl (Bool.eq_false_iff.2 h39) ?_
      refine CW.skip ?_
      refine QW.then_n ?_
      refine CW.seq ?_
      refine CW.region ?_
      refine OW.rv (RV.move rfl) rfl ?_
      obtain ⟨⟨x41, x42⟩, hx40, hf⟩ := some_bind hf
      try dsimp only at hf
      refine OW.callG Try.call55 rfl (rlp_Decode_does w0 (More w0 Φ (B8 ++ (((some b2), blk ((u8s ([128#8] : List (BitVec 8))) ++ []) 5) :: []))) (((B8 ++ (((some b2), blk ((u8s ([128#8] : List (BitVec 8))) ++ []) 5) :: [])) ++ N)) (fun w m => More.of hΦ 0 m rfl) A0_ c0_ a0 x41 x42 va0 hx40) rfl rfl ?_
      rintro L47 M48 ⟨B43, cs44, h45, b46, e49, e50⟩
      rw [e49, e50]
      clear e49 e50 L47 M48
      refine OW.mem (M' := (((B43 ++ (B8 ++ (((some b2), blk ((u8s ([128#8] : List (BitVec 8))) ++ []) 5) :: []))) ++ N))) (fun w m => by have h := Mem.sinkAt (A := B43) m 0 0 rfl rfl; exact h) ?_
      replace va0 := va0.mono (Ψ := More w0 Φ (B43 ++ (B8 ++ (((some b2), blk ((u8s ([128#8] : List (BitVec 8))) ++ []) 5) :: [])))) (fun w q => More.mono (fun w m => (m).appR) q)
      replace h45 := ItRd.mono (Ψ := (More w0 Φ (B43 ++ (B8 ++ (((some b2), blk ((u8s ([128#8] : List (BitVec 8))) ++ []) 5) :: []))))) (fun w q => More.flat q) _ _ h45
      have h60 := h45
      obtain ⟨A51, c52, A54, c55, cs57, e59, v53, v56, h58⟩ := ItRd.opn h45
      subst e59
      have m61 := v53.mx
      have m62 := v56.mx
      have m63 := v53.mx
      have m64 := v56.mx
      refine OW.rv (RV.move rfl) rfl ?_
      refine OW.rv (RV.extract rfl rfl) rfl ?_
      refine OW.slot (.agg [.bool (x41.list), .slice A51 x41.data.length c52, .slice A54 x41.items.length c55].toArray) (rfl) ?_
      refine OW.rv (RV.extract rfl rfl) rfl ?_
      refine OW.slot (.int .i64 ((x42 : Nat) : Int)) (rfl) ?_
      refine OW.alloc (l := [.bool false, .slice none 0 0, .slice none 0 0]) rfl rfl rfl (fun b65 => ?_)
      refine OW.sv (SV.storeW rfl rfl rfl (by intro u hu; simp at hu; rcases hu with rfl | rfl | rfl <;> rfl) rfl rfl rfl) ?_
      refine OW.rv (RV.assign rfl) rfl ?_
      refine OW.nil ?_
      refine QW.then_n ?_
      refine CW.seq ?_
      refine CW.seq ?_
      refine CW.region ?_
      refine OW.rv (RV.move rfl) rfl ?_
      refine OW.rv (RV.neq rfl rfl) rfl ?_
      refine OW.slot (.bool (!decide (x42 = 0))) (congrArg (fun b => Value.bool (!b)) (decide_eq_decide.2 (by omega))) ?_
      refine OW.nil ?_
      refine QW.then_n ?_
      by_cases h66 : x42 = 0
      · replace hf := if_t hf h66
        refine CW.is_f rfl (congrArg (fun b => !b) (decide_eq_true h66)) ?_
        refine CW.skip ?_
        refine QW.then_n ?_
        refine CW.seq ?_
        refine CW.region ?_
        refine OW.rv (RV.loadW rfl (List.Mem.head _) rfl rfl rfl rfl rfl) rfl ?_
        obtain ⟨x68, hx67, hf⟩ := some_bind hf
        refine OW.callG Try.call57 rfl (waybilllaw07_twin_does w0 (More w0 Φ (B43 ++ (B8 ++ (((some b2), blk ((u8s ([128#8] : List (BitVec 8))) ++ []) 5) :: [])))) ((some b65, blk [.bool (x41.list), .slice A51 x41.data.length c52, .slice A54 x41.items.length c55] 29) :: ((B43 ++ (B8 ++ (((some b2), blk ((u8s ([128#8] : List (BitVec 8))) ++ []) 5) :: []))) ++ N)) (fun w m => More.of hΦ 1 m rfl) [.bool (x41.list), .slice A51 x41.data.length c52, .slice A54 x41.items.length c55] x41 x68 h60 hx67) rfl rfl ?_
        rintro L72 M73 ⟨B69, cs70, h71, e74, e75⟩
        rw [e74, e75]
        clear e74 e75 L72 M73
        refine OW.mem (M' := ((some b65, blk [.bool (x41.list), .slice A51 x41.data.length c52, .slice A54 x41.items.length c55] 29) :: ((B69 ++ (B43 ++ (B8 ++ (((some b2), blk ((u8s ([128#8] : List (BitVec 8))) ++ []) 5) :: [])))) ++ N))) (fun w m => by have h := Mem.sinkAt (A := B69) m 0 1 rfl rfl; exact h) ?_
        replace va0 := va0.mono (Ψ := More w0 Φ (B69 ++ (B43 ++ (B8 ++ (((some b2), blk ((u8s ([128#8] : List (BitVec 8))) ++ []) 5) :: []))))) (fun w q => More.mono (fun w m => (m).appR) q)
        replace h60 := ItRd.mono (Ψ := More w0 Φ (B69 ++ (B43 ++ (B8 ++ (((some b2), blk ((u8s ([128#8] : List (BitVec 8))) ++ []) 5) :: []))))) (fun w q => More.mono (fun w m => (m).appR) q) _ _ h60
        replace v53 := v53.mono (Ψ := More w0 Φ (B69 ++ (B43 ++ (B8 ++ (((some b2), blk ((u8s ([128#8] : List (BitVec 8))) ++ []) 5) :: []))))) (fun w q => More.mono (fun w m => (m).appR) q)
        replace v56 := v56.mono (Ψ := More w0 Φ (B69 ++ (B43 ++ (B8 ++ (((some b2), blk ((u8s ([128#8] : List (BitVec 8))) ++ []) 5) :: []))))) (fun w q => More.mono (fun w m => (m).appR) q)
        replace h58 := h58.mono (ItRd.mono (Ψ := More w0 Φ (B69 ++ (B43 ++ (B8 ++ (((some b2), blk ((u8s ([128#8] : List (BitVec 8))) ++ []) 5) :: []))))) (fun w q => More.mono (fun w m => (m).appR) q))
        replace h71 := ItRd.mono (Ψ := (More w0 Φ (B69 ++ (B43 ++ (B8 ++ (((some b2), blk ((u8s ([128#8] : List (BitVec 8))) ++ []) 5) :: [])))))) (fun w q => More.flat q) _ _ h71
        have h85 := h71
        obtain ⟨A76, c77, A79, c80, cs82, e84, v78, v81, h83⟩ := ItRd.opn h71
        subst e84
        have m86 := v78.mx
        have m87 := v81.mx
        have m88 := v78.mx
        have m89 := v81.mx
        obtain ⟨⟨x91, x92⟩, hx90, hf⟩ := some_bind hf
        try dsimp only at hf
        refine OW.callG Try.call53 rfl (rlp_Encode_does w0 (More w0 Φ (B69 ++ (B43 ++ (B8 ++ (((some b2), blk ((u8s ([128#8] : List (BitVec 8))) ++ []) 5) :: []))))) ((some b65, blk [.bool (x41.list), .slice A51 x41.data.length c52, .slice A54 x41.items.length c55] 29) :: ((B69 ++ (B43 ++ (B8 ++ (((some b2), blk ((u8s ([128#8] : List (BitVec 8))) ++ []) 5) :: [])))) ++ N)) (fun w m => More.of hΦ 1 m rfl) [.bool (x68.list), .slice A76 x68.data.length c77, .slice A79 x68.items.length c80] x68 x91 x92 h85 hx90) rfl rfl ?_
        rintro L99 M100 ⟨B93, ob94, c95, r96, o97, b98, e101, e102⟩
        rw [e101, e102]
        clear e101 e102 L99 M100
        refine OW.mem (M' := ((ob94, blk ((u8s x91) ++ r96) 5) :: (some b65, blk [.bool (x41.list), .slice A51 x41.data.length c52, .slice A54 x41.items.length c55] 29) :: ((B93 ++ (B69 ++ (B43 ++ (B8 ++ (((some b2), blk ((u8s ([128#8] : List (BitVec 8))) ++ []) 5) :: []))))) ++ N))) (fun w m => by have h := Mem.sinkAt (A := B93) m 1 1 rfl rfl; exact h) ?_
        replace va0 := va0.mono (Ψ := More w0 Φ (B93 ++ (B69 ++ (B43 ++ (B8 ++ (((some b2), blk ((u8s ([128#8] : List (BitVec 8))) ++ []) 5) :: [])))))) (fun w q => More.mono (fun w m => (m).appR) q)
        replace h60 := ItRd.mono (Ψ := More w0 Φ (B93 ++ (B69 ++ (B43 ++ (B8 ++ (((some b2), blk ((u8s ([128#8] : List (BitVec 8))) ++ []) 5) :: [])))))) (fun w q => More.mono (fun w m => (m).appR) q) _ _ h60
        replace v53 := v53.mono (Ψ := More w0 Φ (B93 ++ (B69 ++ (B43 ++ (B8 ++ (((some b2), blk ((u8s ([128#8] : List (BitVec 8))) ++ []) 5) :: [])))))) (fun w q => More.mono (fun w m => (m).appR) q)
        replace v56 := v56.mono (Ψ := More w0 Φ (B93 ++ (B69 ++ (B43 ++ (B8 ++ (((some b2), blk ((u8s ([128#8] : List (BitVec 8))) ++ []) 5) :: [])))))) (fun w q => More.mono (fun w m => (m).appR) q)
        replace h58 := h58.mono (ItRd.mono (Ψ := More w0 Φ (B93 ++ (B69 ++ (B43 ++ (B8 ++ (((some b2), blk ((u8s ([128#8] : List (BitVec 8))) ++ []) 5) :: [])))))) (fun w q => More.mono (fun w m => (m).appR) q))
        replace h85 := ItRd.mono (Ψ := More w0 Φ (B93 ++ (B69 ++ (B43 ++ (B8 ++ (((some b2), blk ((u8s ([128#8] : List (BitVec 8))) ++ []) 5) :: [])))))) (fun w q => More.mono (fun w m => (m).appR) q) _ _ h85
        replace v78 := v78.mono (Ψ := More w0 Φ (B93 ++ (B69 ++ (B43 ++ (B8 ++ (((some b2), blk ((u8s ([128#8] : List (BitVec 8))) ++ []) 5) :: [])))))) (fun w q => More.mono (fun w m => (m).appR) q)
        replace v81 := v81.mono (Ψ := More w0 Φ (B93 ++ (B69 ++ (B43 ++ (B8 ++ (((some b2), blk ((u8s ([128#8] : List (BitVec 8))) ++ []) 5) :: [])))))) (fun w q => More.mono (fun w m => (m).appR) q)
        replace h83 := h83.mono (ItRd.mono (Ψ := More w0 Φ (B93 ++ (B69 ++ (B43 ++ (B8 ++ (((some b2), blk ((u8s ([128#8] : List (BitVec 8))) ++ []) 5) :: [])))))) (fun w q => More.mono (fun w m => (m).appR) q))
        have m103 := o97.mx
        refine OW.rv (RV.move rfl) rfl ?_
        refine OW.rv (RV.extract rfl rfl) rfl ?_
        refine OW.slot (sl ob94 0 x91.length c95) (rfl) ?_
        refine OW.rv (RV.extract rfl rfl) rfl ?_
        refine OW.slot (.int .i64 ((x92 : Nat) : Int)) (rfl) ?_
        refine OW.rv (RV.assign rfl) rfl ?_
        refine OW.rv (RV.assign rfl) rfl ?_
        refine OW.nil ?_
        refine QW.then_n ?_
        refine CW.seq ?_
        refine CW.seq ?_
        obtain ⟨q104, hq105, hf⟩ := some_bind hf
        refine CW.cutJ (fun L' M' => ∃ p108 : Bool, ∃ B106 : List Ent, q104 = p108 ∧ (∀ w, Mem w0 w B106 → Mem w0 w (B93 ++ (B69 ++ (B43 ++ (B8 ++ (((some b2), blk ((u8s ([128#8] : List (BitVec 8))) ++ []) 5) :: [])))))) ∧ L' = [(0, .slice A0_ a0.length c0_), (1, .int .i64 a1), (2, U8 a2), (9, ptr (some b65) 0), (58, .bool (p108))] ∧ M' = ((some b65, blk [.bool (x41.list), .slice A51 x41.data.length c52, .slice A54 x41.items.length c55] 29) :: (B106 ++ N))) ?_ ?_
        · rintro L110 M111 ⟨p108, B106, e109, hB107, e112, e113⟩
          rw [e112, e113]
          clear e112 e113 L110 M111
          clear hq105
          rw [e109] at hf
          clear e109
          try dsimp only at hf
          replace va0 := va0.mono (Ψ := More w0 Φ B106) (fun w q => More.mono (fun w m => hB107 w (m)) q)
          replace h60 := ItRd.mono (Ψ := More w0 Φ B106) (fun w q => More.mono (fun w m => hB107 w (m)) q) _ _ h60
          replace v53 := v53.mono (Ψ := More w0 Φ B106) (fun w q => More.mono (fun w m => hB107 w (m)) q)
          replace v56 := v56.mono (Ψ := More w0 Φ B106) (fun w q => More.mono (fun w m => hB107 w (m)) q)
          replace h58 := h58.mono (ItRd.mono (Ψ := More w0 Φ B106) (fun w q => More.mono (fun w m => hB107 w (m)) q))
          refine QW.then_n ?_
          by_cases h114 : p108 = true
          · replace hf := if_t hf h114
            refine CW.is_t rfl (h114) ?_
            refine CW.seq ?_
            refine CW.region ?_
            refine OW.rv (RV.assign rfl) rfl ?_
            refine OW.nil ?_
            refine QW.then_n ?_
            refine CW.ret ?_
            refine QW.then_r ?_
            have e0 := Option.some.inj hf
            subst e0
            refine QW.retG (rs := [.tmp 6]) ([.bool false]) ((some b65, blk [.bool (x41.list), .slice A51 x41.data.length c52, .slice A54 x41.items.length c55] 29) :: B106) rfl ?_ rfl ?_ ?_ _ (.inl rfl)
            · exact ⟨rfl, trivial⟩
            · exact rfl
            · exact (fun w m => m)
          · replace hf := if_f hf h114
            refine CW.is_f rfl (Bool.eq_false_iff.2 h114) ?_
            refine CW.skip ?_
            refine QW.then_n ?_
            refine CW.seq ?_
            refine CW.seq ?_
            obtain ⟨q115, hq116, hf⟩ := some_bind hf
            refine CW.cutJ (fun L' M' => ∃ p117 : Bool, q115 = p117 ∧ L' = [(0, .slice A0_ a0.length c0_), (1, .int .i64 a1), (2, U8 a2), (9, ptr (some b65) 0), (70, .bool (p117))] ∧ M' = ((some b65, blk [.bool (x41.list), .slice A51 x41.data.length c52, .slice A54 x41.items.length c55] 29) :: (B106 ++ N))) ?_ ?_
            · rintro L119 M120 ⟨p117, e118, e121, e122⟩
              rw [e121, e122]
              clear e121 e122 L119 M120
              clear hq116
              rw [e118] at hf
              clear e118
              try dsimp only at hf
              refine QW.then_n ?_
              by_cases h123 : p117 = true
              · replace hf := if_t hf h123
                refine CW.is_t rfl (h123) ?_
                refine CW.seq ?_
                refine CW.region ?_
                refine OW.rv (RV.assign rfl) rfl ?_
                refine OW.nil ?_
                refine QW.then_n ?_
                refine CW.ret ?_
                refine QW.then_r ?_
                have e0 := Option.some.inj hf
                subst e0
                refine QW.retG (rs := [.tmp 6]) ([.bool true]) ((some b65, blk [.bool (x41.list), .slice A51 x41.data.length c52, .slice A54 x41.items.length c55] 29) :: B106) rfl ?_ rfl ?_ ?_ _ (.inl rfl)
                · exact ⟨rfl, trivial⟩
                · exact rfl
                · exact (fun w m => m)
              · replace hf := if_f hf h123
                refine CW.is_f rfl (Bool.eq_false_iff.2 h123) ?_
                refine CW.skip ?_
                refine QW.then_n ?_
                refine CW.seq ?_
                refine CW.region ?_
                refine OW.rv (RV.move rfl) rfl ?_
                obtain ⟨x125, hx124, hf⟩ := some_bind hf
                refine OW.callG Try.call15 rfl (waybilllaw07_roomy_own w0 (More w0 Φ B106) ((some b65, blk [.bool (x41.list), .slice A51 x41.data.length c52, .slice A54 x41.items.length c55] 29) :: (B106 ++ N)) (fun w m => More.of hΦ 1 m rfl) A0_ c0_ a0 x125 va0 hx124) rfl rfl ?_
                rintro L131 M132 ⟨B126, ob127, c128, r129, o130, e133, e134⟩
                rw [e133, e134]
                clear e133 e134 L131 M132
                refine OW.mem (M' := ((ob127, blk ((u8s x125) ++ r129) 5) :: (some b65, blk [.bool (x41.list), .slice A51 x41.data.length c52, .slice A54 x41.items.length c55] 29) :: ((B126 ++ B106) ++ N))) (fun w m => by have h := Mem.sinkAt (A := B126) m 1 1 rfl rfl; exact h) ?_
                replace va0 := va0.mono (Ψ := More w0 Φ (B126 ++ B106)) (fun w q => More.mono (fun w m => (m).appR) q)
                replace h60 := ItRd.mono (Ψ := More w0 Φ (B126 ++ B106)) (fun w q => More.mono (fun w m => (m).appR) q) _ _ h60
                replace v53 := v53.mono (Ψ := More w0 Φ (B126 ++ B106)) (fun w q => More.mono (fun w m => (m).appR) q)
                replace v56 := v56.mono (Ψ := More w0 Φ (B126 ++ B106)) (fun w q => More.mono (fun w m => (m).appR) q)
                replace h58 := h58.mono (ItRd.mono (Ψ := More w0 Φ (B126 ++ B106)) (fun w q => More.mono (fun w m => (m).appR) q))
                have m135 := o130.mx
                refine OW.rv (RV.assign rfl) rfl ?_
                refine OW.nil ?_
                refine QW.then_n ?_
                refine CW.seq ?_
                refine CW.region ?_
                refine OW.rv (RV.move rfl) rfl ?_
                refine OW.rv (RV.move rfl) rfl ?_
                refine OW.rv (RV.move rfl) rfl ?_
                refine OW.rv (RV.move rfl) rfl ?_
                obtain ⟨g136, hf⟩ := some_if hf
                obtain ⟨x137, hx138, hf⟩ := some_bind hf
                have hl139 := lt_of_at hx138
                refine OW.rv (RV.idx_o ((a1).toNat) rfl rfl (by omega) rfl rfl (o130.isSome (by decide) hl139) (by omega)) rfl ?_
                refine OW.rv (RV.load rfl (List.Mem.head _) (o130.isSome (by decide) hl139) rfl rfl (own_at0 (u8s_at hx138))) rfl ?_
                refine OW.rv (RV.move rfl) rfl ?_
                refine OW.rv (RV.add8 rfl (by first | rfl | exact lit8 _ rfl) rfl (by first | rfl | exact lit8 _ rfl)) rfl ?_
                obtain ⟨x140, hx141, hf⟩ := some_bind hf
                have hl142 := lt_of_at hx141
                refine OW.rv (RV.idx_o ((a1).toNat) rfl rfl (by omega) rfl rfl (o130.isSome (by decide) hl142) (by omega)) rfl ?_
                refine OW.sv (SV.store rfl (o130.isSome (by decide) hl142) rfl rfl rfl (by rw [List.length_append, u8s_length]; omega)) ?_
                refine OW.cells ((u8s (x125.set ((a1).toNat) (x137 + a2))) ++ r129) (by rw [Nat.zero_add, List.set_append_left _ _ (by rw [u8s_length]; omega), u8s_set']) ?_
                have o143 : OwnS ob127 (x125.set ((a1).toNat) (x137 + a2)).length c128 1 (u8s (x125.set ((a1).toNat) (x137 + a2))) r129 := OwnS.same o130 (by simp) (by simp)
                refine OW.frame (L' := [(0, .slice A0_ a0.length c0_), (1, .int .i64 a1), (2, U8 a2), (9, ptr (some b65) 0), (13, sl ob127 0 (x125.set ((a1).toNat) (x137 + a2)).length c128), (70, .bool (p117)), (71, .slice A0_ a0.length c0_), (72, sl ob127 0 (x125.set ((a1).toNat) (x137 + a2)).length c128), (73, sl ob127 0 (x125.set ((a1).toNat) (x137 + a2)).length c128), (74, .int .i64 a1), (75, sl ob127 0 (x125.set ((a1).toNat) (x137 + a2)).length c128), (76, .int .i64 a1), (78, U8 x137), (79, U8 a2), (80, U8 (x137 + a2))]) (fun k v h => Sub.get (L' := [(0, .slice A0_ a0.length c0_), (1, .int .i64 a1), (2, U8 a2), (9, ptr (some b65) 0), (13, sl ob127 0 (x125.set ((a1).toNat) (x137 + a2)).length c128), (70, .bool (p117)), (71, .slice A0_ a0.length c0_), (72, sl ob127 0 (x125.set ((a1).toNat) (x137 + a2)).length c128), (73, sl ob127 0 (x125.set ((a1).toNat) (x137 + a2)).length c128), (74, .int .i64 a1), (75, sl ob127 0 (x125.set ((a1).toNat) (x137 + a2)).length c128), (76, .int .i64 a1), (78, U8 x137), (79, U8 a2), (80, U8 (x137 + a2))]) ?_ k v h) ?_
                · exact ⟨rfl, rfl, rfl, rfl, (congrArg (fun k => some (sl ob127 0 k c128)) (List.length_set ..).symm), rfl, rfl, (congrArg (fun k => some (sl ob127 0 k c128)) (List.length_set ..).symm), (congrArg (fun k => some (sl ob127 0 k c128)) (List.length_set ..).symm), rfl, (congrArg (fun k => some (sl ob127 0 k c128)) (List.length_set ..).symm), rfl, rfl, rfl, rfl, trivial⟩
                refine OW.nil ?_
                refine QW.then_n ?_
                refine CW.seq ?_
                refine CW.region ?_
                refine OW.rv (RV.move rfl) rfl ?_
                refine OW.mem (M' := (some b65, blk [.bool (x41.list), .slice A51 x41.data.length c52, .slice A54 x41.items.length c55] 29) :: (((ob127, blk ((u8s (x125.set ((a1).toNat) (x137 + a2))) ++ r129) 5) :: (B126 ++ B106)) ++ N)) (fun w m => m.pick [1, 0] 2 rfl rfl) ?_
                replace va0 := va0.mono (Ψ := More w0 Φ ((ob127, blk ((u8s (x125.set ((a1).toNat) (x137 + a2))) ++ r129) 5) :: (B126 ++ B106))) (fun w q => More.mono (fun w m => (m).tail) q)
                replace h60 := ItRd.mono (Ψ := More w0 Φ ((ob127, blk ((u8s (x125.set ((a1).toNat) (x137 + a2))) ++ r129) 5) :: (B126 ++ B106))) (fun w q => More.mono (fun w m => (m).tail) q) _ _ h60
                replace v53 := v53.mono (Ψ := More w0 Φ ((ob127, blk ((u8s (x125.set ((a1).toNat) (x137 + a2))) ++ r129) 5) :: (B126 ++ B106))) (fun w q => More.mono (fun w m => (m).tail) q)
                replace v56 := v56.mono (Ψ := More w0 Φ ((ob127, blk ((u8s (x125.set ((a1).toNat) (x137 + a2))) ++ r129) 5) :: (B126 ++ B106))) (fun w q => More.mono (fun w m => (m).tail) q)
                replace h58 := h58.mono (ItRd.mono (Ψ := More w0 Φ ((ob127, blk ((u8s (x125.set ((a1).toNat) (x137 + a2))) ++ r129) 5) :: (B126 ++ B106))) (fun w q => More.mono (fun w m => (m).tail) q))
                have v144 : View (More w0 Φ ((ob127, blk ((u8s (x125.set ((a1).toNat) (x137 + a2))) ++ r129) 5) :: (B126 ++ B106))) ((ob127).map fun k => ⟨k, 0, none⟩) (x125.set ((a1).toNat) (x137 + a2)).length c128 1 (u8s (x125.set ((a1).toNat) (x137 + a2))) := o143.view (by decide) (fun w q => q.2.sublist (List.singleton_sublist.2 (List.mem_cons_self ..)))
                obtain ⟨⟨x146, x147⟩, hx145, hf⟩ := some_bind hf
                try dsimp only at hf
                refine OW.callG Try.call55 rfl (rlp_Decode_does w0 (More w0 Φ ((ob127, blk ((u8s (x125.set ((a1).toNat) (x137 + a2))) ++ r129) 5) :: (B126 ++ B106))) ((some b65, blk [.bool (x41.list), .slice A51 x41.data.length c52, .slice A54 x41.items.length c55] 29) :: (((ob127, blk ((u8s (x125.set ((a1).toNat) (x137 + a2))) ++ r129) 5) :: (B126 ++ B106)) ++ N)) (fun w m => More.of hΦ 1 m rfl) ((ob127).map fun k => ⟨k, 0, none⟩) c128 (x125.set ((a1).toNat) (x137 + a2)) x146 x147 v144 hx145) rfl rfl ?_
                rintro L152 M153 ⟨B148, cs149, h150, b151, e154, e155⟩
                rw [e154, e155]
                clear e154 e155 L152 M153
                refine OW.mem (M' := ((some b65, blk [.bool (x41.list), .slice A51 x41.data.length c52, .slice A54 x41.items.length c55] 29) :: ((B148 ++ ((ob127, blk ((u8s (x125.set ((a1).toNat) (x137 + a2))) ++ r129) 5) :: (B126 ++ B106))) ++ N))) (fun w m => by have h := Mem.sinkAt (A := B148) m 0 1 rfl rfl; exact h) ?_
                replace va0 := va0.mono (Ψ := More w0 Φ (B148 ++ ((ob127, blk ((u8s (x125.set ((a1).toNat) (x137 + a2))) ++ r129) 5) :: (B126 ++ B106)))) (fun w q => More.mono (fun w m => (m).appR) q)
                replace v144 := v144.mono (Ψ := More w0 Φ (B148 ++ ((ob127, blk ((u8s (x125.set ((a1).toNat) (x137 + a2))) ++ r129) 5) :: (B126 ++ B106)))) (fun w q => More.mono (fun w m => (m).appR) q)
                replace h60 := ItRd.mono (Ψ := More w0 Φ (B148 ++ ((ob127, blk ((u8s (x125.set ((a1).toNat) (x137 + a2))) ++ r129) 5) :: (B126 ++ B106)))) (fun w q => More.mono (fun w m => (m).appR) q) _ _ h60
                replace v53 := v53.mono (Ψ := More w0 Φ (B148 ++ ((ob127, blk ((u8s (x125.set ((a1).toNat) (x137 + a2))) ++ r129) 5) :: (B126 ++ B106)))) (fun w q => More.mono (fun w m => (m).appR) q)
                replace v56 := v56.mono (Ψ := More w0 Φ (B148 ++ ((ob127, blk ((u8s (x125.set ((a1).toNat) (x137 + a2))) ++ r129) 5) :: (B126 ++ B106)))) (fun w q => More.mono (fun w m => (m).appR) q)
                replace h58 := h58.mono (ItRd.mono (Ψ := More w0 Φ (B148 ++ ((ob127, blk ((u8s (x125.set ((a1).toNat) (x137 + a2))) ++ r129) 5) :: (B126 ++ B106)))) (fun w q => More.mono (fun w m => (m).appR) q))
                replace h150 := ItRd.mono (Ψ := (More w0 Φ (B148 ++ ((ob127, blk ((u8s (x125.set ((a1).toNat) (x137 + a2))) ++ r129) 5) :: (B126 ++ B106))))) (fun w q => More.flat q) _ _ h150
                have h165 := h150
                obtain ⟨A156, c157, A159, c160, cs162, e164, v158, v161, h163⟩ := ItRd.opn h150
                subst e164
                have m166 := v158.mx
                have m167 := v161.mx
                have m168 := v158.mx
                have m169 := v161.mx
                refine OW.rv (RV.move rfl) rfl ?_
                refine OW.rv (RV.extract rfl rfl) rfl ?_
                refine OW.slot (.agg [.bool (x146.list), .slice A156 x146.data.length c157, .slice A159 x146.items.length c160].toArray) (rfl) ?_
                refine OW.rv (RV.extract rfl rfl) rfl ?_
                refine OW.slot (.int .i64 ((x147 : Nat) : Int)) (rfl) ?_
                refine OW.alloc (l := [.bool false, .slice none 0 0, .slice none 0 0]) rfl rfl rfl (fun b170 => ?_)
                refine OW.sv (SV.storeW rfl rfl rfl (by intro u hu; simp at hu; rcases hu with rfl | rfl | rfl <;> rfl) rfl rfl rfl) ?_
                refine OW.rv (RV.assign rfl) rfl ?_
                refine OW.nil ?_
                refine QW.then_n ?_
                refine CW.seq ?_
                obtain ⟨q171, hq172, hf⟩ := some_bind hf
                refine CW.cutJ (fun L' M' => ∃ p173 : Bool, q171 = p173 ∧ L' = [(6, .bool (p173))] ∧ M' = (((B148 ++ ((ob127, blk ((u8s (x125.set ((a1).toNat) (x137 + a2))) ++ r129) 5) :: (B126 ++ B106))) ++ N))) ?_ ?_
                · rintro L175 M176 ⟨p173, e174, e177, e178⟩
                  rw [e177, e178]
                  clear e177 e178 L175 M176
                  clear hq172
                  rw [e174] at hf
                  clear e174
                  try dsimp only at hf
                  refine QW.then_n ?_
                  refine CW.ret ?_
                  have e0 := Option.some.inj hf
                  subst e0
                  refine QW.retG (rs := [.tmp 6]) ([.bool (p173)]) ((B148 ++ ((ob127, blk ((u8s (x125.set ((a1).toNat) (x137 + a2))) ++ r129) 5) :: (B126 ++ B106)))) rfl ?_ rfl ?_ ?_ _ (.inl rfl)
                  · exact ⟨rfl, trivial⟩
                  · exact rfl
                  · exact (fun w m => m)
                · skip
                  refine CW.region ?_
                  refine OW.rv (RV.move rfl) rfl ?_
                  refine OW.rv (RV.neq rfl rfl) rfl ?_
                  refine OW.slot (.bool (!decide (x147 = 0))) (congrArg (fun b => Value.bool (!b)) (decide_eq_decide.2 (by omega))) ?_
                  refine OW.rv (RV.move rfl) rfl ?_
                  by_cases h179 : x147 = 0
                  · replace hq172 := if_t hq172 h179
                    refine OW.slot (.bool false) (congrArg Value.bool (congrArg (fun b => !b) (decide_eq_true h179))) ?_
                    refine OW.want rfl ?_
                    refine OW.rv (RV.loadW rfl (List.Mem.head _) rfl rfl rfl rfl rfl) rfl ?_
                    refine OW.want rfl ?_
                    refine OW.rv (RV.loadW rfl (List.Mem.tail _ (List.Mem.head _)) rfl rfl rfl rfl rfl) rfl ?_
                    refine OW.want rfl ?_
                    obtain ⟨x181, hx180, hq172⟩ := some_bind hq172
                    refine OW.callG Try.call17 rfl (waybillref07_Same_does w0 (More w0 Φ (B148 ++ ((ob127, blk ((u8s (x125.set ((a1).toNat) (x137 + a2))) ++ r129) 5) :: (B126 ++ B106)))) ((some b170, blk [.bool (x146.list), .slice A156 x146.data.length c157, .slice A159 x146.items.length c160] 29) :: (some b65, blk [.bool (x41.list), .slice A51 x41.data.length c52, .slice A54 x41.items.length c55] 29) :: ((B148 ++ ((ob127, blk ((u8s (x125.set ((a1).toNat) (x137 + a2))) ++ r129) 5) :: (B126 ++ B106))) ++ N)) (fun w m => More.of hΦ 2 m rfl) [.bool (x146.list), .slice A156 x146.data.length c157, .slice A159 x146.items.length c160] x146 [.bool (x41.list), .slice A51 x41.data.length c52, .slice A54 x41.items.length c55] x41 x181 h165 h60 hx180) rfl rfl ?_
                    rintro _ G182 rfl
                    refine OW.mem (M' := ((some b170, blk [.bool (x146.list), .slice A156 x146.data.length c157, .slice A159 x146.items.length c160] 29) :: (some b65, blk [.bool (x41.list), .slice A51 x41.data.length c52, .slice A54 x41.items.length c55] 29) :: ((B148 ++ ((ob127, blk ((u8s (x125.set ((a1).toNat) (x137 + a2))) ++ r129) 5) :: (B126 ++ B106))) ++ N))) (fun w m => m.appR) ?_
                    refine OW.want rfl ?_
                    refine OW.rv (RV.not rfl) rfl ?_
                    refine OW.rv (RV.pick_f rfl rfl rfl) rfl ?_
                    refine OW.rv (RV.assign rfl) rfl ?_
                    refine OW.nil ?_
                    exact QW.join ⟨(!x181), (Option.some.inj hq172).symm, rfl, rfl⟩ ⟨rfl, trivial⟩ (fun w m => m.pick [] 2 rfl rfl)
                  · replace hq172 := if_f hq172 h179
                    refine OW.slot (.bool true) (congrArg Value.bool (congrArg (fun b => !b) (decide_eq_false h179))) ?_
                    refine OW.skip rfl rfl rfl ?_
                    refine OW.skip rfl rfl rfl ?_
                    refine OW.skip rfl rfl rfl ?_
                    refine OW.skip rfl rfl rfl ?_
                    refine OW.rv (RV.pick_t rfl rfl rfl) rfl ?_
                    refine OW.rv (RV.assign rfl) rfl ?_
                    refine OW.nil ?_
                    exact QW.join ⟨true, (Option.some.inj hq172).symm, rfl, rfl⟩ ⟨rfl, trivial⟩ (fun w m => m.pick [] 2 rfl rfl)
            · skip
              refine CW.region ?_
              refine OW.rv (RV.move rfl) rfl ?_
              refine OW.rv (RV.lss rfl rfl) rfl ?_
              refine OW.rv (RV.move rfl) rfl ?_
              by_cases h184 : a1 < (0 : Int)
              · replace hq116 := if_t hq116 h184
                refine OW.slot (.bool true) (congrArg Value.bool (decide_eq_true h184)) ?_
                refine OW.skip rfl rfl rfl ?_
                refine OW.skip rfl rfl rfl ?_
                refine OW.skip rfl rfl rfl ?_
                refine OW.skip rfl rfl rfl ?_
                refine OW.rv (RV.pick_t rfl rfl rfl) rfl ?_
                refine OW.rv (RV.move rfl) rfl ?_
                refine OW.skip rfl rfl rfl ?_
                refine OW.skip rfl rfl rfl ?_
                refine OW.rv (RV.pick_t rfl rfl rfl) rfl ?_
                refine OW.nil ?_
                exact QW.join ⟨true, (Option.some.inj hq116).symm, rfl, rfl⟩ ⟨rfl, rfl, rfl, rfl, rfl, trivial⟩ (fun w m => m.pick [0] 1 rfl rfl)
              · replace hq116 := if_f hq116 h184
                refine OW.slot (.bool false) (congrArg Value.bool (decide_eq_false h184)) ?_
                refine OW.want rfl ?_
                refine OW.rv (RV.move rfl) rfl ?_
                refine OW.want rfl ?_
                refine OW.rv (RV.move rfl) rfl ?_
                refine OW.want rfl ?_
                refine OW.rv (RV.len rfl rfl) rfl ?_
                refine OW.want rfl ?_
                refine OW.rv (RV.geq rfl rfl) rfl ?_
                refine OW.rv (RV.pick_f rfl rfl rfl) rfl ?_
                refine OW.rv (RV.move rfl) rfl ?_
                by_cases h185 : ((a0.length : Nat) : Int) ≤ a1
                · replace hq116 := if_t hq116 h185
                  refine OW.slot (.bool true) (congrArg Value.bool (decide_eq_true h185)) ?_
                  refine OW.skip rfl rfl rfl ?_
                  refine OW.skip rfl rfl rfl ?_
                  refine OW.rv (RV.pick_t rfl rfl rfl) rfl ?_
                  refine OW.nil ?_
                  exact QW.join ⟨true, (Option.some.inj hq116).symm, rfl, rfl⟩ ⟨rfl, rfl, rfl, rfl, rfl, trivial⟩ (fun w m => m.pick [0] 1 rfl rfl)
                · replace hq116 := if_f hq116 h185
                  refine OW.slot (.bool false) (congrArg Value.bool (decide_eq_false h185)) ?_
                  refine OW.want rfl ?_
                  refine OW.rv (RV.move rfl) rfl ?_
                  refine OW.want rfl ?_
                  refine OW.rv (RV.eql8 rfl (by first | rfl | exact lit8 _ rfl) rfl (by first | rfl | exact lit8 _ rfl)) rfl ?_
                  refine OW.rv (RV.pick_f rfl rfl rfl) rfl ?_
                  refine OW.nil ?_
                  exact QW.join ⟨(decide (a2 = 0#8)), (Option.some.inj hq116).symm, rfl, rfl⟩ ⟨rfl, rfl, rfl, rfl, rfl, trivial⟩ (fun w m => m.pick [0] 1 rfl rfl)
        · skip
          refine CW.region ?_
          refine OW.rv (RV.move rfl) rfl ?_
          refine OW.rv (RV.neq rfl rfl) rfl ?_
          refine OW.slot (.bool (!decide (x92 = 0))) (congrArg (fun b => Value.bool (!b)) (decide_eq_decide.2 (by omega))) ?_
          refine OW.rv (RV.move rfl) rfl ?_
          by_cases h186 : x92 = 0
          · replace hq105 := if_t hq105 h186
            refine OW.slot (.bool false) (congrArg Value.bool (congrArg (fun b => !b) (decide_eq_true h186))) ?_
            refine OW.want rfl ?_
            refine OW.rv (RV.move rfl) rfl ?_
            refine OW.want rfl ?_
            refine OW.rv (RV.move rfl) rfl ?_
            refine OW.want rfl ?_
            refine OW.mem (M' := (some b65, blk [.bool (x41.list), .slice A51 x41.data.length c52, .slice A54 x41.items.length c55] 29) :: (((ob94, blk ((u8s x91) ++ r96) 5) :: (B93 ++ (B69 ++ (B43 ++ (B8 ++ (((some b2), blk ((u8s ([128#8] : List (BitVec 8))) ++ []) 5) :: [])))))) ++ N)) (fun w m => m.pick [1, 0] 2 rfl rfl) ?_
            replace va0 := va0.mono (Ψ := More w0 Φ ((ob94, blk ((u8s x91) ++ r96) 5) :: (B93 ++ (B69 ++ (B43 ++ (B8 ++ (((some b2), blk ((u8s ([128#8] : List (BitVec 8))) ++ []) 5) :: []))))))) (fun w q => More.mono (fun w m => (m).tail) q)
            replace h60 := ItRd.mono (Ψ := More w0 Φ ((ob94, blk ((u8s x91) ++ r96) 5) :: (B93 ++ (B69 ++ (B43 ++ (B8 ++ (((some b2), blk ((u8s ([128#8] : List (BitVec 8))) ++ []) 5) :: []))))))) (fun w q => More.mono (fun w m => (m).tail) q) _ _ h60
            replace v53 := v53.mono (Ψ := More w0 Φ ((ob94, blk ((u8s x91) ++ r96) 5) :: (B93 ++ (B69 ++ (B43 ++ (B8 ++ (((some b2), blk ((u8s ([128#8] : List (BitVec 8))) ++ []) 5) :: []))))))) (fun w q => More.mono (fun w m => (m).tail) q)
            replace v56 := v56.mono (Ψ := More w0 Φ ((ob94, blk ((u8s x91) ++ r96) 5) :: (B93 ++ (B69 ++ (B43 ++ (B8 ++ (((some b2), blk ((u8s ([128#8] : List (BitVec 8))) ++ []) 5) :: []))))))) (fun w q => More.mono (fun w m => (m).tail) q)
            replace h58 := h58.mono (ItRd.mono (Ψ := More w0 Φ ((ob94, blk ((u8s x91) ++ r96) 5) :: (B93 ++ (B69 ++ (B43 ++ (B8 ++ (((some b2), blk ((u8s ([128#8] : List (BitVec 8))) ++ []) 5) :: []))))))) (fun w q => More.mono (fun w m => (m).tail) q))
            replace h85 := ItRd.mono (Ψ := More w0 Φ ((ob94, blk ((u8s x91) ++ r96) 5) :: (B93 ++ (B69 ++ (B43 ++ (B8 ++ (((some b2), blk ((u8s ([128#8] : List (BitVec 8))) ++ []) 5) :: []))))))) (fun w q => More.mono (fun w m => (m).tail) q) _ _ h85
            replace v78 := v78.mono (Ψ := More w0 Φ ((ob94, blk ((u8s x91) ++ r96) 5) :: (B93 ++ (B69 ++ (B43 ++ (B8 ++ (((some b2), blk ((u8s ([128#8] : List (BitVec 8))) ++ []) 5) :: []))))))) (fun w q => More.mono (fun w m => (m).tail) q)
            replace v81 := v81.mono (Ψ := More w0 Φ ((ob94, blk ((u8s x91) ++ r96) 5) :: (B93 ++ (B69 ++ (B43 ++ (B8 ++ (((some b2), blk ((u8s ([128#8] : List (BitVec 8))) ++ []) 5) :: []))))))) (fun w q => More.mono (fun w m => (m).tail) q)
            replace h83 := h83.mono (ItRd.mono (Ψ := More w0 Φ ((ob94, blk ((u8s x91) ++ r96) 5) :: (B93 ++ (B69 ++ (B43 ++ (B8 ++ (((some b2), blk ((u8s ([128#8] : List (BitVec 8))) ++ []) 5) :: []))))))) (fun w q => More.mono (fun w m => (m).tail) q))
            have v187 : View (More w0 Φ ((ob94, blk ((u8s x91) ++ r96) 5) :: (B93 ++ (B69 ++ (B43 ++ (B8 ++ (((some b2), blk ((u8s ([128#8] : List (BitVec 8))) ++ []) 5) :: []))))))) ((ob94).map fun k => ⟨k, 0, none⟩) x91.length c95 1 (u8s x91) := o97.view (by decide) (fun w q => q.2.sublist (List.singleton_sublist.2 (List.mem_cons_self ..)))
            obtain ⟨x189, hx188, hq105⟩ := some_bind hq105
            refine OW.callG Try.call26 rfl (waybilllaw07_same_does w0 (More w0 Φ ((ob94, blk ((u8s x91) ++ r96) 5) :: (B93 ++ (B69 ++ (B43 ++ (B8 ++ (((some b2), blk ((u8s ([128#8] : List (BitVec 8))) ++ []) 5) :: []))))))) ((some b65, blk [.bool (x41.list), .slice A51 x41.data.length c52, .slice A54 x41.items.length c55] 29) :: (((ob94, blk ((u8s x91) ++ r96) 5) :: (B93 ++ (B69 ++ (B43 ++ (B8 ++ (((some b2), blk ((u8s ([128#8] : List (BitVec 8))) ++ []) 5) :: [])))))) ++ N)) (fun w m => More.of hΦ 1 m rfl) A0_ c0_ a0 ((ob94).map fun k => ⟨k, 0, none⟩) c95 x91 x189 va0 v187 hx188) rfl rfl ?_
            rintro _ G190 rfl
            refine OW.mem (M' := ((some b65, blk [.bool (x41.list), .slice A51 x41.data.length c52, .slice A54 x41.items.length c55] 29) :: (((ob94, blk ((u8s x91) ++ r96) 5) :: (B93 ++ (B69 ++ (B43 ++ (B8 ++ (((some b2), blk ((u8s ([128#8] : List (BitVec 8))) ++ []) 5) :: [])))))) ++ N))) (fun w m => m.appR) ?_
            refine OW.want rfl ?_
            refine OW.rv (RV.not rfl) rfl ?_
            refine OW.rv (RV.pick_f rfl rfl rfl) rfl ?_
            refine OW.rv (RV.move rfl) rfl ?_
            by_cases h192 : x189 = true
            · replace hq105 := if_t hq105 h192
              refine OW.slot (.bool false) (congrArg Value.bool (congrArg (fun b => !b) (h192))) ?_
              refine OW.want rfl ?_
              refine OW.rv (RV.loadW rfl (List.Mem.head _) rfl rfl rfl rfl rfl) rfl ?_
              refine OW.want rfl ?_
              obtain ⟨x194, hx193, hq105⟩ := some_bind hq105
              refine OW.callG Try.call57 rfl (waybilllaw07_twin_does w0 (More w0 Φ ((ob94, blk ((u8s x91) ++ r96) 5) :: (B93 ++ (B69 ++ (B43 ++ (B8 ++ (((some b2), blk ((u8s ([128#8] : List (BitVec 8))) ++ []) 5) :: []))))))) ((some b65, blk [.bool (x41.list), .slice A51 x41.data.length c52, .slice A54 x41.items.length c55] 29) :: (((ob94, blk ((u8s x91) ++ r96) 5) :: (B93 ++ (B69 ++ (B43 ++ (B8 ++ (((some b2), blk ((u8s ([128#8] : List (BitVec 8))) ++ []) 5) :: [])))))) ++ N)) (fun w m => More.of hΦ 1 m rfl) [.bool (x41.list), .slice A51 x41.data.length c52, .slice A54 x41.items.length c55] x41 x194 h60 hx193) rfl rfl ?_
              rintro L198 M199 ⟨B195, cs196, h197, e200, e201⟩
              rw [e200, e201]
              clear e200 e201 L198 M199
              refine OW.mem (M' := ((some b65, blk [.bool (x41.list), .slice A51 x41.data.length c52, .slice A54 x41.items.length c55] 29) :: ((B195 ++ ((ob94, blk ((u8s x91) ++ r96) 5) :: (B93 ++ (B69 ++ (B43 ++ (B8 ++ (((some b2), blk ((u8s ([128#8] : List (BitVec 8))) ++ []) 5) :: []))))))) ++ N))) (fun w m => by have h := Mem.sinkAt (A := B195) m 0 1 rfl rfl; exact h) ?_
              replace va0 := va0.mono (Ψ := More w0 Φ (B195 ++ ((ob94, blk ((u8s x91) ++ r96) 5) :: (B93 ++ (B69 ++ (B43 ++ (B8 ++ (((some b2), blk ((u8s ([128#8] : List (BitVec 8))) ++ []) 5) :: [])))))))) (fun w q => More.mono (fun w m => (m).appR) q)
              replace h60 := ItRd.mono (Ψ := More w0 Φ (B195 ++ ((ob94, blk ((u8s x91) ++ r96) 5) :: (B93 ++ (B69 ++ (B43 ++ (B8 ++ (((some b2), blk ((u8s ([128#8] : List (BitVec 8))) ++ []) 5) :: [])))))))) (fun w q => More.mono (fun w m => (m).appR) q) _ _ h60
              replace v53 := v53.mono (Ψ := More w0 Φ (B195 ++ ((ob94, blk ((u8s x91) ++ r96) 5) :: (B93 ++ (B69 ++ (B43 ++ (B8 ++ (((some b2), blk ((u8s ([128#8] : List (BitVec 8))) ++ []) 5) :: [])))))))) (fun w q => More.mono (fun w m => (m).appR) q)
              replace v56 := v56.mono (Ψ := More w0 Φ (B195 ++ ((ob94, blk ((u8s x91) ++ r96) 5) :: (B93 ++ (B69 ++ (B43 ++ (B8 ++ (((some b2), blk ((u8s ([128#8] : List (BitVec 8))) ++ []) 5) :: [])))))))) (fun w q => More.mono (fun w m => (m).appR) q)
              replace h58 := h58.mono (ItRd.mono (Ψ := More w0 Φ (B195 ++ ((ob94, blk ((u8s x91) ++ r96) 5) :: (B93 ++ (B69 ++ (B43 ++ (B8 ++ (((some b2), blk ((u8s ([128#8] : List (BitVec 8))) ++ []) 5) :: [])))))))) (fun w q => More.mono (fun w m => (m).appR) q))
              replace h85 := ItRd.mono (Ψ := More w0 Φ (B195 ++ ((ob94, blk ((u8s x91) ++ r96) 5) :: (B93 ++ (B69 ++ (B43 ++ (B8 ++ (((some b2), blk ((u8s ([128#8] : List (BitVec 8))) ++ []) 5) :: [])))))))) (fun w q => More.mono (fun w m => (m).appR) q) _ _ h85
              replace v78 := v78.mono (Ψ := More w0 Φ (B195 ++ ((ob94, blk ((u8s x91) ++ r96) 5) :: (B93 ++ (B69 ++ (B43 ++ (B8 ++ (((some b2), blk ((u8s ([128#8] : List (BitVec 8))) ++ []) 5) :: [])))))))) (fun w q => More.mono (fun w m => (m).appR) q)
              replace v81 := v81.mono (Ψ := More w0 Φ (B195 ++ ((ob94, blk ((u8s x91) ++ r96) 5) :: (B93 ++ (B69 ++ (B43 ++ (B8 ++ (((some b2), blk ((u8s ([128#8] : List (BitVec 8))) ++ []) 5) :: [])))))))) (fun w q => More.mono (fun w m => (m).appR) q)
              replace h83 := h83.mono (ItRd.mono (Ψ := More w0 Φ (B195 ++ ((ob94, blk ((u8s x91) ++ r96) 5) :: (B93 ++ (B69 ++ (B43 ++ (B8 ++ (((some b2), blk ((u8s ([128#8] : List (BitVec 8))) ++ []) 5) :: [])))))))) (fun w q => More.mono (fun w m => (m).appR) q))
              replace v187 := v187.mono (Ψ := More w0 Φ (B195 ++ ((ob94, blk ((u8s x91) ++ r96) 5) :: (B93 ++ (B69 ++ (B43 ++ (B8 ++ (((some b2), blk ((u8s ([128#8] : List (BitVec 8))) ++ []) 5) :: [])))))))) (fun w q => More.mono (fun w m => (m).appR) q)
              replace h197 := ItRd.mono (Ψ := (More w0 Φ (B195 ++ ((ob94, blk ((u8s x91) ++ r96) 5) :: (B93 ++ (B69 ++ (B43 ++ (B8 ++ (((some b2), blk ((u8s ([128#8] : List (BitVec 8))) ++ []) 5) :: []))))))))) (fun w q => More.flat q) _ _ h197
              have h211 := h197
              obtain ⟨A202, c203, A205, c206, cs208, e210, v204, v207, h209⟩ := ItRd.opn h197
              subst e210
              have m212 := v204.mx
              have m213 := v207.mx
              have m214 := v204.mx
              have m215 := v207.mx
              refine OW.want rfl ?_
              obtain ⟨x217, hx216, hq105⟩ := some_bind hq105
              refine OW.callG Try.call49 rfl (rlp_Check_does w0 (More w0 Φ (B195 ++ ((ob94, blk ((u8s x91) ++ r96) 5) :: (B93 ++ (B69 ++ (B43 ++ (B8 ++ (((some b2), blk ((u8s ([128#8] : List (BitVec 8))) ++ []) 5) :: [])))))))) ((some b65, blk [.bool (x41.list), .slice A51 x41.data.length c52, .slice A54 x41.items.length c55] 29) :: ((B195 ++ ((ob94, blk ((u8s x91) ++ r96) 5) :: (B93 ++ (B69 ++ (B43 ++ (B8 ++ (((some b2), blk ((u8s ([128#8] : List (BitVec 8))) ++ []) 5) :: []))))))) ++ N)) (fun w m => More.of hΦ 1 m rfl) [.bool (x194.list), .slice A202 x194.data.length c203, .slice A205 x194.items.length c206] x194 x217 h211 hx216) rfl rfl ?_
              rintro _ G219 ⟨b218, rfl⟩
              refine OW.mem (M' := ((some b65, blk [.bool (x41.list), .slice A51 x41.data.length c52, .slice A54 x41.items.length c55] 29) :: ((B195 ++ ((ob94, blk ((u8s x91) ++ r96) 5) :: (B93 ++ (B69 ++ (B43 ++ (B8 ++ (((some b2), blk ((u8s ([128#8] : List (BitVec 8))) ++ []) 5) :: []))))))) ++ N))) (fun w m => m.appR) ?_
              refine OW.want rfl ?_
              refine OW.rv (RV.neq rfl rfl) rfl ?_
              refine OW.slot (.bool (!decide (x217 = 0))) (congrArg (fun b => Value.bool (!b)) (decide_eq_decide.2 (by omega))) ?_
              refine OW.rv (RV.pick_f rfl rfl rfl) rfl ?_
              refine OW.nil ?_
              exact QW.join ⟨(!decide (x217 = 0)), (B195 ++ ((ob94, blk ((u8s x91) ++ r96) 5) :: (B93 ++ (B69 ++ (B43 ++ (B8 ++ (((some b2), blk ((u8s ([128#8] : List (BitVec 8))) ++ []) 5) :: []))))))), (Option.some.inj hq105).symm, (fun w m => ((m).appR).tail), rfl, rfl⟩ ⟨rfl, rfl, rfl, rfl, rfl, trivial⟩ (fun w m => m.pick [0] 1 rfl rfl)
            · replace hq105 := if_f hq105 h192
              refine OW.slot (.bool true) (congrArg Value.bool (congrArg (fun b => !b) (Bool.eq_false_iff.2 h192))) ?_
              refine OW.skip rfl rfl rfl ?_
              refine OW.skip rfl rfl rfl ?_
              refine OW.skip rfl rfl rfl ?_
              refine OW.skip rfl rfl rfl ?_
              refine OW.rv (RV.pick_t rfl rfl rfl) rfl ?_
              refine OW.nil ?_
              exact QW.join ⟨true, ((ob94, blk ((u8s x91) ++ r96) 5) :: (B93 ++ (B69 ++ (B43 ++ (B8 ++ (((some b2), blk ((u8s ([128#8] : List (BitVec 8))) ++ []) 5) :: [])))))), (Option.some.inj hq105).symm, (fun w m => (m).tail), rfl, rfl⟩ ⟨rfl, rfl, rfl, rfl, rfl, trivial⟩ (fun w m => m.pick [0] 1 rfl rfl)
          · replace hq105 := if_f hq105 h186
            refine OW.slot (.bool true) (congrArg Value.bool (congrArg (fun b => !b) (decide_eq_false h186))) ?_
            refine OW.skip rfl rfl rfl ?_
            refine OW.skip rfl rfl rfl ?_
            refine OW.skip rfl rfl rfl ?_
            refine OW.skip rfl rfl rfl ?_
            refine OW.rv (RV.pick_t rfl rfl rfl) rfl ?_
            refine OW.rv (RV.move rfl) rfl ?_
            refine OW.skip rfl rfl rfl ?_
            refine OW.skip rfl rfl rfl ?_
            refine OW.skip rfl rfl rfl ?_
            refine OW.skip rfl rfl rfl ?_
            refine OW.rv (RV.pick_t rfl rfl rfl) rfl ?_
            refine OW.nil ?_
            exact QW.join ⟨true, (B93 ++ (B69 ++ (B43 ++ (B8 ++ (((some b2), blk ((u8s ([128#8] : List (BitVec 8))) ++ []) 5) :: []))))), (Option.some.inj hq105).symm, (fun w m => m), rfl, rfl⟩ ⟨rfl, rfl, rfl, rfl, rfl, trivial⟩ (fun w m => m.pick [1] 2 rfl rfl)
      · replace hf := if_f hf h66
        refine CW.is_t rfl (congrArg (fun b => !b) (decide_eq_false h66)) ?_
        refine CW.seq ?_
        refine CW.region ?_
        refine OW.rv (RV.loadW rfl (List.Mem.head _) rfl rfl rfl rfl rfl) rfl ?_
        refine OW.rv (RV.buildSt (l := [.bool false, .slice none 0 0, .slice none 0 0]) (cs := [.bool false, .slice none 0 0, .slice none 0 0]) [] rfl rfl rfl rfl rfl rfl rfl) rfl ?_
        have v221 : View (More w0 Φ (B43 ++ (B8 ++ (((some b2), blk ((u8s ([128#8] : List (BitVec 8))) ++ []) 5) :: [])))) none ([] : List (BitVec 8)).length 0 1 (u8s []) := View.nil
        have v222 : View (More w0 Φ (B43 ++ (B8 ++ (((some b2), blk ((u8s ([128#8] : List (BitVec 8))) ++ []) 5) :: [])))) none ([] : List (It)).length 0 3 [] := View.nil
        obtain ⟨x224, hx223, hf⟩ := some_bind hf
        refine OW.callG Try.call17 rfl (waybillref07_Same_does w0 (More w0 Φ (B43 ++ (B8 ++ (((some b2), blk ((u8s ([128#8] : List (BitVec 8))) ++ []) 5) :: [])))) ((some b65, blk [.bool (x41.list), .slice A51 x41.data.length c52, .slice A54 x41.items.length c55] 29) :: ((B43 ++ (B8 ++ (((some b2), blk ((u8s ([128#8] : List (BitVec 8))) ++ []) 5) :: []))) ++ N)) (fun w m => More.of hΦ 1 m rfl) [.bool (x41.list), .slice A51 x41.data.length c52, .slice A54 x41.items.length c55] x41 [.bool false, .slice none 0 0, .slice none 0 0] (It.mk false ([] : List (BitVec 8)) ([] : List (It))) x224 h60 (ItRd.mk v221 v222 (Reps.nil)) hx223) rfl rfl ?_
        rintro _ G225 rfl
        refine OW.mem (M' := ((some b65, blk [.bool (x41.list), .slice A51 x41.data.length c52, .slice A54 x41.items.length c55] 29) :: ((B43 ++ (B8 ++ (((some b2), blk ((u8s ([128#8] : List (BitVec 8))) ++ []) 5) :: []))) ++ N))) (fun w m => m.appR) ?_
        refine OW.rv (RV.assign rfl) rfl ?_
        refine OW.nil ?_
        refine QW.then_n ?_
        refine CW.ret ?_
        refine QW.then_r ?_
        have e0 := Option.some.inj hf
        subst e0
        refine QW.retG (rs := [.tmp 6]) ([.bool (x224)]) ((some b65, blk [.bool (x41.list), .slice A51 x41.data.length c52, .slice A54 x41.items.length c55] 29) :: (B43 ++ (B8 ++ (((some b2), blk ((u8s ([128#8] : List (BitVec 8))) ++ []) 5) :: [])))) rfl ?_ rfl ?_ ?_ _ (.inl rfl)
        · exact ⟨rfl, trivial⟩
        · exact rfl
        · exact (fun w m => m)
  · skip
    refine CW.region ?_
    refine OW.rv (RV.move rfl) rfl ?_
    refine OW.rv (RV.neq rfl rfl) rfl ?_
    refine OW.slot (.bool (!decide (x7 = 0))) (congrArg (fun b => Value.bool (!b)) (decide_eq_decide.2 (by omega))) ?_
    refine OW.rv (RV.move rfl) rfl ?_
    by_cases h227 : x7 = 0
    · replace hq32 := if_t hq32 h227
      refine OW.slot (.bool false) (congrArg Value.bool (congrArg (fun b => !b) (decide_eq_true h227))) ?_
      refine OW.want rfl ?_
      refine OW.rv (RV.loadW rfl (List.Mem.head _) rfl rfl rfl rfl rfl) rfl ?_
      refine OW.want rfl ?_
      refine OW.rv (RV.buildSt (l := [.bool false, .slice none 0 0, .slice none 0 0]) (cs := [.bool false, .slice none 0 0, .slice none 0 0]) [] rfl rfl rfl rfl rfl rfl rfl) rfl ?_
      refine OW.want rfl ?_
      have v228 : View (More w0 Φ (B8 ++ (((some b2), blk ((u8s ([128#8] : List (BitVec 8))) ++ []) 5) :: []))) none ([] : List (BitVec 8)).length 0 1 (u8s []) := View.nil
      have v229 : View (More w0 Φ (B8 ++ (((some b2), blk ((u8s ([128#8] : List (BitVec 8))) ++ []) 5) :: []))) none ([] : List (It)).length 0 3 [] := View.nil
      obtain ⟨x231, hx230, hq32⟩ := some_bind hq32
      refine OW.callG Try.call17 rfl (waybillref07_Same_does w0 (More w0 Φ (B8 ++ (((some b2), blk ((u8s ([128#8] : List (BitVec 8))) ++ []) 5) :: []))) ((some b30, blk [.bool (x6.list), .slice A16 x6.data.length c17, .slice A19 x6.items.length c20] 29) :: ((B8 ++ (((some b2), blk ((u8s ([128#8] : List (BitVec 8))) ++ []) 5) :: [])) ++ N)) (fun w m => More.of hΦ 1 m rfl) [.bool (x6.list), .slice A16 x6.data.length c17, .slice A19 x6.items.length c20] x6 [.bool false, .slice none 0 0, .slice none 0 0] (It.mk false ([] : List (BitVec 8)) ([] : List (It))) x231 h25 (ItRd.mk v228 v229 (Reps.nil)) hx230) rfl rfl ?_
      rintro _ G232 rfl
      refine OW.mem (M' := ((some b30, blk [.bool (x6.list), .slice A16 x6.data.length c17, .slice A19 x6.items.length c20] 29) :: ((B8 ++ (((some b2), blk ((u8s ([128#8] : List (BitVec 8))) ++ []) 5) :: [])) ++ N))) (fun w m => m.appR) ?_
      refine OW.want rfl ?_
      refine OW.rv (RV.not rfl) rfl ?_
      refine OW.rv (RV.pick_f rfl rfl rfl) rfl ?_
      refine OW.nil ?_
      exact QW.join ⟨(!x231), (Option.some.inj hq32).symm, rfl, rfl⟩ ⟨rfl, rfl, rfl, rfl, trivial⟩ (fun w m => m.pick [] 1 rfl rfl)
    · replace hq32 := if_f hq32 h227
      refine OW.slot (.bool true) (congrArg Value.bool (congrArg (fun b => !b) (decide_eq_false h227))) ?_
      refine OW.skip rfl rfl rfl ?_
      refine OW.skip rfl rfl rfl ?_
      refine OW.skip rfl rfl rfl ?_
      refine OW.skip rfl rfl rfl ?_
      refine OW.rv (RV.pick_t rfl rfl rfl) rfl ?_
      refine OW.nil ?_
      exact QW.join ⟨true, (Option.some.inj hq32).symm, rfl, rfl⟩ ⟨rfl, rfl, rfl, rfl, trivial⟩ (fun w m => m.pick [] 1 rfl rfl)
end Go.Fw.Try
