/- Part of a proof over Ytgdohhccpghofaa: rules and contracts that the law's text uses. No condition. -/
import Derived.Test.YtgdohhccpghofaaTy
import Derived.Test.YtgdohhccpghofaaExt
import Derived.Test.YtgdohhccpghofaaRlpRoom
import Derived.Test.YtgdohhccpghofaaRlpP1
import Derived.Test.YtgdohhccpghofaaRlpP2
import Derived.Test.YtgdohhccpghofaaRlpP3
import Derived.Test.YtgdohhccpghofaaRlpP4
import Derived.Test.YtgdohhccpghofaaRlpP5
import Derived.Test.YtgdohhccpghofaaRlpPartsW1
namespace Go.Fw.Try
open Go Go.Proofs Go.Fw
set_option maxRecDepth 100000
set_option linter.unusedVariables false
set_option linter.unusedSimpArgs false
set_option maxHeartbeats 1000000
theorem waybilllaw07_twin_does (w0 : World) (Φ : Ctx) (N : List Ent) (hΦ : ∀ w, Mem w0 w N → Φ w) (cs0_ : List Value) (a0 : It) (res0 : It) (ha0 : ItRd Φ cs0_ a0) (hf : waybilllaw07_twin a0 = some res0) : DoesG Try.prog 57 [.agg cs0_.toArray] w0 [] N (fun v G => ∃ B : List Ent, ∃ cr0 : List Value, (ItRd (More w0 Φ B) cr0 res0) ∧ v = .agg cr0.toArray ∧ G = B) := by
  unfold waybilllaw07_twin at hf
  replace ha0 := ItRd.mono (Ψ := More w0 Φ []) (fun w q => q.1) _ _ ha0
  have h10 := ha0
  obtain ⟨A1, c2, A4, c5, cs7, e9, v3, v6, h8⟩ := ItRd.opn ha0
  subst e9
  have m11 := v3.mx
  have m12 := v6.mx
  refine DoesG.enter Try.func57 rfl Try.ntmps57 rfl (M := (([] ++ N))) rfl ?_
  refine CW.seq ?_
  refine CW.region ?_
  refine OW.boxA rfl rfl (fun b13 => ?_)
  refine OW.alloc (l := [.bool false, .slice none 0 0, .slice none 0 0]) rfl rfl rfl (fun b14 => ?_)
  refine OW.nil ?_
  refine QW.then_n ?_
  refine CW.seq ?_
  refine CW.region ?_
  refine OW.rv (RV.loadW rfl (List.Mem.tail _ (List.Mem.head _)) rfl rfl rfl rfl rfl) rfl ?_
  refine OW.ofN (NV.bsA rfl rfl (by intro x hx; simp at hx; subst hx; rfl) rfl rfl rfl (by decide) (by decide) rfl) rfl (fun b15 => ?_)
  have h18 : Reps (ItRd (More w0 Φ [])) (([.bool (a0.list), .slice A1 a0.data.length c2, .slice A4 a0.items.length c5] : List Value)) [a0] := Reps.one h10
  refine OW.mem (M' := (((some b15), blk ((([.bool (a0.list), .slice A1 a0.data.length c2, .slice A4 a0.items.length c5] : List Value)) ++ []) 29) :: (some b14, blk [.bool false, .slice none 0 0, .slice none 0 0] 29) :: (some b13, blk [.bool (a0.list), .slice A1 a0.data.length c2, .slice A4 a0.items.length c5] 29) :: ([] ++ N))) (fun w m => m) ?_
  have o16 : OwnS (some b15) ([a0] : List (It)).length 1 3 (([.bool (a0.list), .slice A1 a0.data.length c2, .slice A4 a0.items.length c5] : List Value)) [] := ⟨by simp [ItRd], by simp [ItRd], (fun h => nomatch h), by simp⟩
  refine OW.slot (sl (some b15) 0 ([a0] : List (It)).length 1) (rfl) ?_
  refine OW.mem (M' := (some b14, blk [.bool false, .slice none 0 0, .slice none 0 0] 29) :: (some b13, blk [.bool (a0.list), .slice A1 a0.data.length c2, .slice A4 a0.items.length c5] 29) :: ((((some b15), blk ((([.bool (a0.list), .slice A1 a0.data.length c2, .slice A4 a0.items.length c5] : List Value)) ++ []) 29) :: []) ++ N)) (fun w m => m.pick [1, 2, 0] 3 rfl rfl) ?_
  replace h10 := ItRd.mono (Ψ := More w0 Φ (((some b15), blk ((([.bool (a0.list), .slice A1 a0.data.length c2, .slice A4 a0.items.length c5] : List Value)) ++ []) 29) :: [])) (fun w q => More.mono (fun w m => (m).tail) q) _ _ h10
  replace v3 := v3.mono (Ψ := More w0 Φ (((some b15), blk ((([.bool (a0.list), .slice A1 a0.data.length c2, .slice A4 a0.items.length c5] : List Value)) ++ []) 29) :: [])) (fun w q => More.mono (fun w m => (m).tail) q)
  replace v6 := v6.mono (Ψ := More w0 Φ (((some b15), blk ((([.bool (a0.list), .slice A1 a0.data.length c2, .slice A4 a0.items.length c5] : List Value)) ++ []) 29) :: [])) (fun w q => More.mono (fun w m => (m).tail) q)
  replace h8 := h8.mono (ItRd.mono (Ψ := More w0 Φ (((some b15), blk ((([.bool (a0.list), .slice A1 a0.data.length c2, .slice A4 a0.items.length c5] : List Value)) ++ []) 29) :: [])) (fun w q => More.mono (fun w m => (m).tail) q))
  replace h18 := h18.mono (ItRd.mono (Ψ := More w0 Φ (((some b15), blk ((([.bool (a0.list), .slice A1 a0.data.length c2, .slice A4 a0.items.length c5] : List Value)) ++ []) 29) :: [])) (fun w q => More.mono (fun w m => (m).tail) q))
  have v19 : View (More w0 Φ (((some b15), blk ((([.bool (a0.list), .slice A1 a0.data.length c2, .slice A4 a0.items.length c5] : List Value)) ++ []) 29) :: [])) (((some b15)).map fun k => ⟨k, 0, none⟩) ([a0] : List (It)).length 1 3 (([.bool (a0.list), .slice A1 a0.data.length c2, .slice A4 a0.items.length c5] : List Value)) := o16.view (by decide) (fun w q => q.2.sublist (List.singleton_sublist.2 (List.mem_cons_self ..)))
  obtain ⟨x21, hx20, hf⟩ := some_bind hf
  refine OW.callG Try.call16 rfl (waybillref07_Copy_does w0 (More w0 Φ (((some b15), blk ((([.bool (a0.list), .slice A1 a0.data.length c2, .slice A4 a0.items.length c5] : List Value)) ++ []) 29) :: [])) ((some b14, blk [.bool false, .slice none 0 0, .slice none 0 0] 29) :: (some b13, blk [.bool (a0.list), .slice A1 a0.data.length c2, .slice A4 a0.items.length c5] 29) :: ((((some b15), blk ((([.bool (a0.list), .slice A1 a0.data.length c2, .slice A4 a0.items.length c5] : List Value)) ++ []) 29) :: []) ++ N)) (fun w m => More.of hΦ 2 m rfl) (((some b15)).map fun k => ⟨k, 0, none⟩) 1 (([.bool (a0.list), .slice A1 a0.data.length c2, .slice A4 a0.items.length c5] : List Value)) ([a0] : List (It)) x21 v19 h18 hx20) rfl rfl ?_
  rintro L29 M30 ⟨B22, cs23, ob25, c26, r27, h24, o28, e31, e32⟩
  rw [e31, e32]
  clear e31 e32 L29 M30
  refine OW.mem (M' := ((ob25, blk (cs23 ++ r27) 29) :: (some b14, blk [.bool false, .slice none 0 0, .slice none 0 0] 29) :: (some b13, blk [.bool (a0.list), .slice A1 a0.data.length c2, .slice A4 a0.items.length c5] 29) :: ((B22 ++ (((some b15), blk ((([.bool (a0.list), .slice A1 a0.data.length c2, .slice A4 a0.items.length c5] : List Value)) ++ []) 29) :: [])) ++ N))) (fun w m => by have h := Mem.sinkAt (A := B22) m 1 2 rfl rfl; exact h) ?_
  replace h10 := ItRd.mono (Ψ := More w0 Φ (B22 ++ (((some b15), blk ((([.bool (a0.list), .slice A1 a0.data.length c2, .slice A4 a0.items.length c5] : List Value)) ++ []) 29) :: []))) (fun w q => More.mono (fun w m => (m).appR) q) _ _ h10
  replace v3 := v3.mono (Ψ := More w0 Φ (B22 ++ (((some b15), blk ((([.bool (a0.list), .slice A1 a0.data.length c2, .slice A4 a0.items.length c5] : List Value)) ++ []) 29) :: []))) (fun w q => More.mono (fun w m => (m).appR) q)
  replace v6 := v6.mono (Ψ := More w0 Φ (B22 ++ (((some b15), blk ((([.bool (a0.list), .slice A1 a0.data.length c2, .slice A4 a0.items.length c5] : List Value)) ++ []) 29) :: []))) (fun w q => More.mono (fun w m => (m).appR) q)
  replace h8 := h8.mono (ItRd.mono (Ψ := More w0 Φ (B22 ++ (((some b15), blk ((([.bool (a0.list), .slice A1 a0.data.length c2, .slice A4 a0.items.length c5] : List Value)) ++ []) 29) :: []))) (fun w q => More.mono (fun w m => (m).appR) q))
  replace v19 := v19.mono (Ψ := More w0 Φ (B22 ++ (((some b15), blk ((([.bool (a0.list), .slice A1 a0.data.length c2, .slice A4 a0.items.length c5] : List Value)) ++ []) 29) :: []))) (fun w q => More.mono (fun w m => (m).appR) q)
  replace h18 := h18.mono (ItRd.mono (Ψ := More w0 Φ (B22 ++ (((some b15), blk ((([.bool (a0.list), .slice A1 a0.data.length c2, .slice A4 a0.items.length c5] : List Value)) ++ []) 29) :: []))) (fun w q => More.mono (fun w m => (m).appR) q))
  replace h24 := h24.mono (ItRd.mono (Ψ := (More w0 Φ (B22 ++ (((some b15), blk ((([.bool (a0.list), .slice A1 a0.data.length c2, .slice A4 a0.items.length c5] : List Value)) ++ []) 29) :: [])))) (fun w q => More.flat q))
  have m33 := o28.mx
  refine OW.mem (M' := (some b14, blk [.bool false, .slice none 0 0, .slice none 0 0] 29) :: (some b13, blk [.bool (a0.list), .slice A1 a0.data.length c2, .slice A4 a0.items.length c5] 29) :: (((ob25, blk (cs23 ++ r27) 29) :: (B22 ++ (((some b15), blk ((([.bool (a0.list), .slice A1 a0.data.length c2, .slice A4 a0.items.length c5] : List Value)) ++ []) 29) :: []))) ++ N)) (fun w m => m.pick [1, 2, 0] 3 rfl rfl) ?_
  replace h10 := ItRd.mono (Ψ := More w0 Φ ((ob25, blk (cs23 ++ r27) 29) :: (B22 ++ (((some b15), blk ((([.bool (a0.list), .slice A1 a0.data.length c2, .slice A4 a0.items.length c5] : List Value)) ++ []) 29) :: [])))) (fun w q => More.mono (fun w m => (m).tail) q) _ _ h10
  replace v3 := v3.mono (Ψ := More w0 Φ ((ob25, blk (cs23 ++ r27) 29) :: (B22 ++ (((some b15), blk ((([.bool (a0.list), .slice A1 a0.data.length c2, .slice A4 a0.items.length c5] : List Value)) ++ []) 29) :: [])))) (fun w q => More.mono (fun w m => (m).tail) q)
  replace v6 := v6.mono (Ψ := More w0 Φ ((ob25, blk (cs23 ++ r27) 29) :: (B22 ++ (((some b15), blk ((([.bool (a0.list), .slice A1 a0.data.length c2, .slice A4 a0.items.length c5] : List Value)) ++ []) 29) :: [])))) (fun w q => More.mono (fun w m => (m).tail) q)
  replace h8 := h8.mono (ItRd.mono (Ψ := More w0 Φ ((ob25, blk (cs23 ++ r27) 29) :: (B22 ++ (((some b15), blk ((([.bool (a0.list), .slice A1 a0.data.length c2, .slice A4 a0.items.length c5] : List Value)) ++ []) 29) :: [])))) (fun w q => More.mono (fun w m => (m).tail) q))
  replace v19 := v19.mono (Ψ := More w0 Φ ((ob25, blk (cs23 ++ r27) 29) :: (B22 ++ (((some b15), blk ((([.bool (a0.list), .slice A1 a0.data.length c2, .slice A4 a0.items.length c5] : List Value)) ++ []) 29) :: [])))) (fun w q => More.mono (fun w m => (m).tail) q)
  replace h18 := h18.mono (ItRd.mono (Ψ := More w0 Φ ((ob25, blk (cs23 ++ r27) 29) :: (B22 ++ (((some b15), blk ((([.bool (a0.list), .slice A1 a0.data.length c2, .slice A4 a0.items.length c5] : List Value)) ++ []) 29) :: [])))) (fun w q => More.mono (fun w m => (m).tail) q))
  replace h24 := h24.mono (ItRd.mono (Ψ := More w0 Φ ((ob25, blk (cs23 ++ r27) 29) :: (B22 ++ (((some b15), blk ((([.bool (a0.list), .slice A1 a0.data.length c2, .slice A4 a0.items.length c5] : List Value)) ++ []) 29) :: [])))) (fun w q => More.mono (fun w m => (m).tail) q))
  have v34 : View (More w0 Φ ((ob25, blk (cs23 ++ r27) 29) :: (B22 ++ (((some b15), blk ((([.bool (a0.list), .slice A1 a0.data.length c2, .slice A4 a0.items.length c5] : List Value)) ++ []) 29) :: [])))) ((ob25).map fun k => ⟨k, 0, none⟩) x21.length c26 3 cs23 := o28.view (by decide) (fun w q => q.2.sublist (List.singleton_sublist.2 (List.mem_cons_self ..)))
  obtain ⟨x35, hx36, hf⟩ := some_bind hf
  have hl37 := lt_of_at hx36
  refine OW.rv (RV.idx_rs (0) rfl rfl rfl rfl rfl (v34.isSome (by decide) hl37) (by omega)) rfl ?_
  obtain ⟨cs38, h39, h40⟩ := h24.get ItRd.len hx36
  have h50 := h39
  obtain ⟨A41, c42, A44, c45, cs47, e49, v43, v46, h48⟩ := ItRd.opn h39
  subst e49
  have m51 := v43.mx
  have m52 := v46.mx
  refine OW.rv (RV.loadAs rfl rfl rfl rfl (fun w m => v34.load (More.of hΦ 2 m rfl) h40) rfl) rfl ?_
  refine OW.sv (SV.storeW rfl rfl rfl (by intro u hu; simp at hu; rcases hu with rfl | rfl | rfl <;> rfl) rfl rfl rfl) ?_
  refine OW.nil ?_
  refine QW.then_n ?_
  refine CW.ret ?_
  have e0 := Option.some.inj hf
  subst e0
  refine QW.retG (rs := [.cell 2 29]) ([.agg [.bool (x35.list), .slice A41 x35.data.length c42, .slice A44 x35.items.length c45].toArray]) (((ob25, blk (cs23 ++ r27) 29) :: (B22 ++ (((some b15), blk ((([.bool (a0.list), .slice A1 a0.data.length c2, .slice A4 a0.items.length c5] : List Value)) ++ []) 29) :: [])))) rfl ?_ rfl ?_ ?_ _ (.inl rfl)
  · exact ⟨⟨_, _, _, _, rfl, (List.Mem.head _), rfl, rfl, rfl, rfl⟩, trivial⟩
  · exact ⟨((ob25, blk (cs23 ++ r27) 29) :: (B22 ++ (((some b15), blk ((([.bool (a0.list), .slice A1 a0.data.length c2, .slice A4 a0.items.length c5] : List Value)) ++ []) 29) :: []))), [.bool (x35.list), .slice A41 x35.data.length c42, .slice A44 x35.items.length c45], h50, rfl, rfl⟩
  · exact (fun w m => m.pick [] 2 rfl rfl)
theorem waybilllaw07_sound_rec (w0 : World) : ∀ (kf : Nat) (Φ : Ctx) (N : List Ent) (hΦ : ∀ w, Mem w0 w N → Φ w) (cs0_ : List Value) (a0 : It) (a1 : Nat) (res0 : Nat) (res1 : Bool) (ha0 : ItRd Φ cs0_ a0) (ba1 : a1 ≤ 9223372036854775807) (hf : waybilllaw07_sound.r kf a0 a1 = some (res0, res1)), DoesG Try.prog 58 [.agg cs0_.toArray, .int .i64 ((a1 : Nat) : Int)] w0 [] N (fun v G => (res0 ≤ 9223372036854775807) ∧ v = .tuple #[.int .i64 ((res0 : Nat) : Int), .bool res1]) := by
  intro kf
  induction kf with
  | zero => intro Φ N hΦ cs0_ a0 a1 res0 res1 ha0 ba1 hf; rw [waybilllaw07_sound.r] at hf; cases hf
  | succ kf ih =>
    intro Φ N hΦ cs0_ a0 a1 res0 res1 ha0 ba1 hf
    rw [waybilllaw07_sound.r] at hf
    replace ha0 := ItRd.mono (Ψ := More w0 Φ []) (fun w q => q.1) _ _ ha0
    have h10 := ha0
    obtain ⟨A1, c2, A4, c5, cs7, e9, v3, v6, h8⟩ := ItRd.opn ha0
    subst e9
    have m11 := v3.mx
    have m12 := v6.mx
    refine DoesG.enter Try.func58 rfl Try.ntmps58 rfl (M := (([] ++ N))) rfl ?_
    refine CW.seq ?_
    refine CW.region ?_
    refine OW.boxA rfl rfl (fun b13 => ?_)
    refine OW.rv (RV.assign rfl) rfl ?_
    refine OW.rv (RV.assign rfl) rfl ?_
    refine OW.nil ?_
    refine QW.then_n ?_
    refine CW.seq ?_
    refine CW.seq ?_
    obtain ⟨q14, hq15, hf⟩ := some_bind hf
    refine CW.cutJ (fun L' M' => ∃ p16 : Bool, q14 = p16 ∧ L' = [(1, .int .i64 ((a1 : Nat) : Int)), (2, ptr (some b13) 0), (32, .bool (p16))] ∧ M' = ((some b13, blk [.bool (a0.list), .slice A1 a0.data.length c2, .slice A4 a0.items.length c5] 29) :: ([] ++ N))) ?_ ?_
    · rintro L18 M19 ⟨p16, e17, e20, e21⟩
      rw [e20, e21]
      clear e20 e21 L18 M19
      clear hq15
      rw [e17] at hf
      clear e17
      try dsimp only at hf
      refine QW.then_n ?_
      by_cases h22 : p16 = true
      · replace hf := if_t hf h22
        refine CW.is_t rfl (h22) ?_
        refine CW.seq ?_
        refine CW.region ?_
        refine OW.rv (RV.assign rfl) rfl ?_
        refine OW.rv (RV.assign rfl) rfl ?_
        refine OW.nil ?_
        refine QW.then_n ?_
        refine CW.ret ?_
        refine QW.then_r ?_
        have er0 := Option.some.inj hf
        obtain ⟨e0, er1⟩ := Prod.mk.inj er0
        clear er0
        subst e0
        subst er1
        refine QW.retG (rs := [.tmp 4, .tmp 5]) ([.int .i64 (0 : Int), .bool false]) ((some b13, blk [.bool (a0.list), .slice A1 a0.data.length c2, .slice A4 a0.items.length c5] 29) :: []) rfl ?_ rfl ?_ ?_ _ (.inl rfl)
        · exact ⟨rfl, rfl, trivial⟩
        · exact ⟨(by omega), rfl⟩
        · exact (fun w m => m)
      · replace hf := if_f hf h22
        refine CW.is_f rfl (Bool.eq_false_iff.2 h22) ?_
        refine CW.skip ?_
        refine QW.then_n ?_
        refine CW.seq ?_
        refine CW.region ?_
        refine OW.rv (RV.field rfl rfl rfl rfl) rfl ?_
        refine OW.rv (RV.load rfl (List.Mem.head _) rfl rfl rfl rfl) rfl ?_
        refine OW.rv (RV.len rfl rfl) rfl ?_
        refine OW.rv (RV.add rfl rfl (by omega)) rfl ?_
        refine OW.slot (.int .i64 (((9 + a0.data.length) : Nat) : Int)) (by first | rfl | (congr 1) | (congr 1; omega)) ?_
        refine OW.rv (RV.assign rfl) rfl ?_
        refine OW.nil ?_
        refine QW.then_n ?_
        refine CW.seq ?_
        refine CW.seq ?_
        refine CW.region ?_
        refine OW.rv (RV.assign rfl) rfl ?_
        refine OW.nil ?_
        refine QW.then_n ?_
        obtain ⟨q23, hq24, hf⟩ := some_bind hf
        refine CW.cutJ (fun L' M' => ∃ n25 : Nat, q23 = Lp.go n25 ∧ (n25 ≤ 9223372036854775807) ∧ L' = [(6, .int .i64 ((n25 : Nat) : Int))] ∧ M' = (([] ++ N))) ?_ ?_
        · rintro L28 M29 ⟨n25, e27, b26, e30, e31⟩
          rw [e30, e31]
          clear e30 e31 L28 M29
          clear hq24
          rw [e27] at hf
          clear e27
          try dsimp only at hf
          refine QW.then_n ?_
          refine CW.seq ?_
          refine CW.region ?_
          refine OW.rv (RV.move rfl) rfl ?_
          refine OW.rv (RV.assign rfl) rfl ?_
          refine OW.rv (RV.assign rfl) rfl ?_
          refine OW.nil ?_
          refine QW.then_n ?_
          refine CW.ret ?_
          have er0 := Option.some.inj hf
          obtain ⟨e0, er1⟩ := Prod.mk.inj er0
          clear er0
          subst e0
          subst er1
          refine QW.retG (rs := [.tmp 4, .tmp 5]) ([.int .i64 ((n25 : Nat) : Int), .bool true]) ([]) rfl ?_ rfl ?_ ?_ _ (.inl rfl)
          · exact ⟨rfl, rfl, trivial⟩
          · exact ⟨(by omega), rfl⟩
          · exact (fun w m => m)
        · skip
          refine CW.block ?_
          refine CW.loopJ (fun k L' M' => ∃ n32 : Nat, ∃ n34 : Nat, (waybilllaw07_sound.l1 a0 a1 (waybilllaw07_sound.r kf) k n32 n34) = some q23 ∧ (n32 ≤ 9223372036854775807) ∧ (n34 ≤ 9223372036854775807) ∧ L' = [(1, .int .i64 ((a1 : Nat) : Int)), (2, ptr (some b13) 0), (6, .int .i64 ((n32 : Nat) : Int)), (7, .int .i64 ((n34 : Nat) : Int))] ∧ M' = ((some b13, blk [.bool (a0.list), .slice A1 a0.data.length c2, .slice A4 a0.items.length c5] 29) :: ([] ++ N))) (k0 := (a0.items.length - 0 + 2)) ⟨(9 + a0.data.length), 0, hq24, (by omega), (by omega), rfl, rfl⟩ ⟨rfl, rfl, rfl, rfl, trivial⟩ (fun w m => m.pick [0] 1 rfl rfl) ?_
          clear hq24
          rintro k36 L39 M40 ⟨n32, n34, hl37, b33, b35, e41, e42⟩
          rw [e41, e42]
          clear e41 e42 L39 M40
          rcases k36 with _ | k36
          · rw [waybilllaw07_sound.l1] at hl37; cases hl37
          rw [waybilllaw07_sound.l1] at hl37
          refine CW.seq ?_
          refine CW.seq ?_
          refine CW.region ?_
          refine OW.rv (RV.move rfl) rfl ?_
          refine OW.rv (RV.field rfl rfl rfl rfl) rfl ?_
          refine OW.rv (RV.load rfl (List.Mem.head _) rfl rfl rfl rfl) rfl ?_
          refine OW.rv (RV.len rfl rfl) rfl ?_
          refine OW.rv (RV.lss rfl rfl) rfl ?_
          refine OW.slot (.bool (decide (n34 < a0.items.length))) (congrArg Value.bool (decide_eq_decide.2 (by omega))) ?_
          refine OW.nil ?_
          refine QW.then_n ?_
          by_cases h43 : n34 < a0.items.length
          · replace hl37 := if_t hl37 h43
            refine CW.is_t rfl (decide_eq_true h43) ?_
            refine CW.skip ?_
            refine QW.then_n ?_
            refine CW.seq ?_
            refine CW.block ?_
            refine CW.seq ?_
            refine CW.region ?_
            refine OW.rv (RV.field rfl rfl rfl rfl) rfl ?_
            refine OW.rv (RV.load rfl (List.Mem.head _) rfl rfl rfl rfl) rfl ?_
            refine OW.rv (RV.move rfl) rfl ?_
            obtain ⟨x44, hx45, hl37⟩ := some_bind hl37
            have hl46 := lt_of_at hx45
            refine OW.rv (RV.idx_rs (n34) rfl rfl rfl rfl rfl (v6.isSome (by decide) hl46) (by omega)) rfl ?_
            obtain ⟨cs47, h48, h49⟩ := h8.get ItRd.len hx45
            have h59 := h48
            obtain ⟨A50, c51, A53, c54, cs56, e58, v52, v55, h57⟩ := ItRd.opn h48
            subst e58
            have m60 := v52.mx
            have m61 := v55.mx
            refine OW.rv (RV.loadAs rfl rfl rfl rfl (fun w m => v6.load (More.of hΦ 1 m rfl) h49) rfl) rfl ?_
            refine OW.rv (RV.move rfl) rfl ?_
            obtain ⟨g62, hl37⟩ := some_if hl37
            refine OW.rv (RV.add rfl rfl (by omega)) rfl ?_
            refine OW.slot (.int .i64 (((a1 + 1) : Nat) : Int)) (by first | rfl | (congr 1) | (congr 1; omega)) ?_
            obtain ⟨⟨x64, x65⟩, hx63, hl37⟩ := some_bind hl37
            try dsimp only at hl37
            refine OW.callG Try.call58 rfl (ih (More w0 Φ []) ((some b13, blk [.bool (a0.list), .slice A1 a0.data.length c2, .slice A4 a0.items.length c5] 29) :: ([] ++ N)) (fun w m => More.of hΦ 1 m rfl) [.bool (x44.list), .slice A50 x44.data.length c51, .slice A53 x44.items.length c54] x44 (a1 + 1) x64 x65 h59 (by omega) hx63) rfl rfl ?_
            rintro _ G67 ⟨b66, rfl⟩
            refine OW.mem (M' := ((some b13, blk [.bool (a0.list), .slice A1 a0.data.length c2, .slice A4 a0.items.length c5] 29) :: ([] ++ N))) (fun w m => m.appR) ?_
            refine OW.rv (RV.move rfl) rfl ?_
            refine OW.rv (RV.extract rfl rfl) rfl ?_
            refine OW.slot (.int .i64 ((x64 : Nat) : Int)) (rfl) ?_
            refine OW.rv (RV.extract rfl rfl) rfl ?_
            refine OW.slot (.bool (x65)) (rfl) ?_
            refine OW.rv (RV.assign rfl) rfl ?_
            refine OW.rv (RV.assign rfl) rfl ?_
            refine OW.nil ?_
            refine QW.then_n ?_
            refine CW.seq ?_
            refine CW.region ?_
            refine OW.rv (RV.move rfl) rfl ?_
            refine OW.rv (RV.move rfl) rfl ?_
            obtain ⟨g69, hl37⟩ := some_if hl37
            refine OW.rv (RV.add rfl rfl (by omega)) rfl ?_
            refine OW.slot (.int .i64 (((n32 + x64) : Nat) : Int)) (by first | rfl | (congr 1) | (congr 1; omega)) ?_
            refine OW.rv (RV.assign rfl) rfl ?_
            refine OW.nil ?_
            refine QW.then_n ?_
            refine CW.seq ?_
            obtain ⟨q70, hq71, hl37⟩ := some_bind hl37
            refine CW.cutJ (fun L' M' => ∃ p72 : Bool, q70 = p72 ∧ L' = [(1, .int .i64 ((a1 : Nat) : Int)), (2, ptr (some b13) 0), (6, .int .i64 (((n32 + x64) : Nat) : Int)), (7, .int .i64 ((n34 : Nat) : Int)), (63, .bool (p72))] ∧ M' = ((some b13, blk [.bool (a0.list), .slice A1 a0.data.length c2, .slice A4 a0.items.length c5] 29) :: ([] ++ N))) ?_ ?_
            · rintro L74 M75 ⟨p72, e73, e76, e77⟩
              rw [e76, e77]
              clear e76 e77 L74 M75
              clear hq71
              rw [e73] at hl37
              clear e73
              try dsimp only at hl37
              refine QW.then_n ?_
              by_cases h78 : p72 = true
              · replace hl37 := if_t hl37 h78
                refine CW.is_t rfl (h78) ?_
                refine CW.seq ?_
                refine CW.region ?_
                refine OW.rv (RV.assign rfl) rfl ?_
                refine OW.rv (RV.assign rfl) rfl ?_
                refine OW.nil ?_
                refine QW.then_n ?_
                refine CW.ret ?_
                refine QW.block_r ?_
                refine QW.then_r ?_
                refine QW.then_r ?_
                refine QW.block_r ?_
                refine QW.then_r ?_
                have hc := Option.some.inj hl37
                subst hc
                try dsimp only at hf
                refine QW.then_r ?_
                have er0 := Option.some.inj hf
                obtain ⟨e0, er1⟩ := Prod.mk.inj er0
                clear er0
                subst e0
                subst er1
                refine QW.retG (rs := [.tmp 4, .tmp 5]) ([.int .i64 (0 : Int), .bool false]) ((some b13, blk [.bool (a0.list), .slice A1 a0.data.length c2, .slice A4 a0.items.length c5] 29) :: []) rfl ?_ rfl ?_ ?_ _ (.inl rfl)
                · exact ⟨rfl, rfl, trivial⟩
                · exact ⟨(by omega), rfl⟩
                · exact (fun w m => m)
              · replace hl37 := if_f hl37 h78
                refine CW.is_f rfl (Bool.eq_false_iff.2 h78) ?_
                refine CW.skip ?_
                refine QW.block_n ?_
                refine QW.then_n ?_
                refine CW.region ?_
                refine OW.rv (RV.move rfl) rfl ?_
                refine OW.rv (RV.add rfl rfl (by omega)) rfl ?_
                refine OW.slot (.int .i64 (((n34 + 1) : Nat) : Int)) (by first | rfl | (congr 1) | (congr 1; omega)) ?_
                refine OW.rv (RV.assign rfl) rfl ?_
                refine OW.nil ?_
                exact QW.againJ (k' := k36) (Nat.lt_succ_self _) ⟨(n32 + x64), (n34 + 1), hl37, (by omega), (by omega), rfl, rfl⟩ ⟨rfl, rfl, rfl, rfl, trivial⟩ (fun w m => m.pick [0] 1 rfl rfl)
            · skip
              refine CW.region ?_
              refine OW.rv (RV.move rfl) rfl ?_
              refine OW.rv (RV.not rfl) rfl ?_
              refine OW.rv (RV.move rfl) rfl ?_
              by_cases h79 : x65 = true
              · replace hq71 := if_t hq71 h79
                refine OW.slot (.bool false) (congrArg Value.bool (congrArg (fun b => !b) (h79))) ?_
                refine OW.want rfl ?_
                refine OW.rv (RV.move rfl) rfl ?_
                refine OW.want rfl ?_
                refine OW.rv (RV.gtr rfl rfl) rfl ?_
                refine OW.slot (.bool (decide (1048576 < (n32 + x64)))) (congrArg Value.bool (decide_eq_decide.2 (by omega))) ?_
                refine OW.rv (RV.pick_f rfl rfl rfl) rfl ?_
                refine OW.nil ?_
                exact QW.join ⟨(decide (1048576 < (n32 + x64))), (Option.some.inj hq71).symm, rfl, rfl⟩ ⟨rfl, rfl, rfl, rfl, rfl, trivial⟩ (fun w m => m.pick [0] 1 rfl rfl)
              · replace hq71 := if_f hq71 h79
                refine OW.slot (.bool true) (congrArg Value.bool (congrArg (fun b => !b) (Bool.eq_false_iff.2 h79))) ?_
                refine OW.skip rfl rfl rfl ?_
                refine OW.skip rfl rfl rfl ?_
                refine OW.rv (RV.pick_t rfl rfl rfl) rfl ?_
                refine OW.nil ?_
                exact QW.join ⟨true, (Option.some.inj hq71).symm, rfl, rfl⟩ ⟨rfl, rfl, rfl, rfl, rfl, trivial⟩ (fun w m => m.pick [0] 1 rfl rfl)
          · replace hl37 := if_f hl37 h43
            refine CW.is_f rfl (decide_eq_false h43) ?_
            refine CW.exit ?_
            refine QW.then_x ?_
            refine QW.then_x ?_
            refine QW.block_xe ?_
            exact QW.join ⟨n32, (Option.some.inj hl37).symm, (by omega), rfl, rfl⟩ ⟨rfl, trivial⟩ (fun w m => m.pick [] 1 rfl rfl)
    · skip
      refine CW.region ?_
      refine OW.rv (RV.move rfl) rfl ?_
      refine OW.rv (RV.gtr rfl rfl) rfl ?_
      refine OW.slot (.bool (decide (200 < a1))) (congrArg Value.bool (decide_eq_decide.2 (by omega))) ?_
      refine OW.rv (RV.move rfl) rfl ?_
      by_cases h80 : 200 < a1
      · replace hq15 := if_t hq15 h80
        refine OW.slot (.bool true) (congrArg Value.bool (decide_eq_true h80)) ?_
        refine OW.skip rfl rfl rfl ?_
        refine OW.skip rfl rfl rfl ?_
        refine OW.skip rfl rfl rfl ?_
        refine OW.skip rfl rfl rfl ?_
        refine OW.skip rfl rfl rfl ?_
        refine OW.skip rfl rfl rfl ?_
        refine OW.skip rfl rfl rfl ?_
        refine OW.skip rfl rfl rfl ?_
        refine OW.rv (RV.pick_t rfl rfl rfl) rfl ?_
        refine OW.rv (RV.move rfl) rfl ?_
        refine OW.skip rfl rfl rfl ?_
        refine OW.skip rfl rfl rfl ?_
        refine OW.skip rfl rfl rfl ?_
        refine OW.skip rfl rfl rfl ?_
        refine OW.skip rfl rfl rfl ?_
        refine OW.skip rfl rfl rfl ?_
        refine OW.skip rfl rfl rfl ?_
        refine OW.skip rfl rfl rfl ?_
        refine OW.skip rfl rfl rfl ?_
        refine OW.rv (RV.pick_t rfl rfl rfl) rfl ?_
        refine OW.nil ?_
        exact QW.join ⟨true, (Option.some.inj hq15).symm, rfl, rfl⟩ ⟨rfl, rfl, rfl, trivial⟩ (fun w m => m.pick [0] 1 rfl rfl)
      · replace hq15 := if_f hq15 h80
        refine OW.slot (.bool false) (congrArg Value.bool (decide_eq_false h80)) ?_
        refine OW.want rfl ?_
        refine OW.rv (RV.field rfl rfl rfl rfl) rfl ?_
        refine OW.want rfl ?_
        refine OW.rv (RV.load rfl (List.Mem.head _) rfl rfl rfl rfl) rfl ?_
        refine OW.want rfl ?_
        refine OW.rv (RV.move rfl) rfl ?_
        by_cases h81 : a0.list = true
        · replace hq15 := if_t hq15 h81
          refine OW.slot (.bool true) (congrArg Value.bool (h81)) ?_
          refine OW.want rfl ?_
          refine OW.rv (RV.field rfl rfl rfl rfl) rfl ?_
          refine OW.want rfl ?_
          refine OW.rv (RV.load rfl (List.Mem.head _) rfl rfl rfl rfl) rfl ?_
          refine OW.want rfl ?_
          refine OW.rv (RV.len rfl rfl) rfl ?_
          refine OW.want rfl ?_
          refine OW.rv (RV.gtr rfl rfl) rfl ?_
          refine OW.slot (.bool (decide (0 < a0.data.length))) (congrArg Value.bool (decide_eq_decide.2 (by omega))) ?_
          refine OW.want rfl ?_
          refine OW.rv (RV.pick_t rfl rfl rfl) rfl ?_
          refine OW.rv (RV.pick_f rfl rfl rfl) rfl ?_
          refine OW.rv (RV.move rfl) rfl ?_
          by_cases h82 : 0 < a0.data.length
          · replace hq15 := if_t hq15 h82
            refine OW.slot (.bool true) (congrArg Value.bool (decide_eq_true h82)) ?_
            refine OW.skip rfl rfl rfl ?_
            refine OW.skip rfl rfl rfl ?_
            refine OW.skip rfl rfl rfl ?_
            refine OW.skip rfl rfl rfl ?_
            refine OW.skip rfl rfl rfl ?_
            refine OW.skip rfl rfl rfl ?_
            refine OW.skip rfl rfl rfl ?_
            refine OW.skip rfl rfl rfl ?_
            refine OW.skip rfl rfl rfl ?_
            refine OW.rv (RV.pick_t rfl rfl rfl) rfl ?_
            refine OW.nil ?_
            exact QW.join ⟨true, (Option.some.inj hq15).symm, rfl, rfl⟩ ⟨rfl, rfl, rfl, trivial⟩ (fun w m => m.pick [0] 1 rfl rfl)
          · replace hq15 := if_f hq15 h82
            refine OW.slot (.bool false) (congrArg Value.bool (decide_eq_false h82)) ?_
            refine OW.want rfl ?_
            refine OW.rv (RV.field rfl rfl rfl rfl) rfl ?_
            refine OW.want rfl ?_
            refine OW.rv (RV.load rfl (List.Mem.head _) rfl rfl rfl rfl) rfl ?_
            refine OW.want rfl ?_
            refine OW.rv (RV.not rfl) rfl ?_
            refine OW.want rfl ?_
            refine OW.rv (RV.move rfl) rfl ?_
            by_cases h83 : a0.list = true
            · replace hq15 := if_t hq15 h83
              refine OW.slot (.bool false) (congrArg Value.bool (congrArg (fun b => !b) (h83))) ?_
              refine OW.skip rfl rfl rfl ?_
              refine OW.skip rfl rfl rfl ?_
              refine OW.skip rfl rfl rfl ?_
              refine OW.skip rfl rfl rfl ?_
              refine OW.want rfl ?_
              refine OW.rv (RV.pick_f rfl rfl rfl) rfl ?_
              refine OW.rv (RV.pick_f rfl rfl rfl) rfl ?_
              refine OW.nil ?_
              exact QW.join ⟨false, (Option.some.inj hq15).symm, rfl, rfl⟩ ⟨rfl, rfl, rfl, trivial⟩ (fun w m => m.pick [0] 1 rfl rfl)
            · replace hq15 := if_f hq15 h83
              refine OW.slot (.bool true) (congrArg Value.bool (congrArg (fun b => !b) (Bool.eq_false_iff.2 h83))) ?_
              refine OW.want rfl ?_
              refine OW.rv (RV.field rfl rfl rfl rfl) rfl ?_
              refine OW.want rfl ?_
              refine OW.rv (RV.load rfl (List.Mem.head _) rfl rfl rfl rfl) rfl ?_
              refine OW.want rfl ?_
              refine OW.rv (RV.len rfl rfl) rfl ?_
              refine OW.want rfl ?_
              refine OW.rv (RV.gtr rfl rfl) rfl ?_
              refine OW.slot (.bool (decide (0 < a0.items.length))) (congrArg Value.bool (decide_eq_decide.2 (by omega))) ?_
              refine OW.want rfl ?_
              refine OW.rv (RV.pick_t rfl rfl rfl) rfl ?_
              refine OW.rv (RV.pick_f rfl rfl rfl) rfl ?_
              refine OW.nil ?_
              exact QW.join ⟨(decide (0 < a0.items.length)), (Option.some.inj hq15).symm, rfl, rfl⟩ ⟨rfl, rfl, rfl, trivial⟩ (fun w m => m.pick [0] 1 rfl rfl)
        · replace hq15 := if_f hq15 h81
          refine OW.slot (.bool false) (congrArg Value.bool (Bool.eq_false_iff.2 h81)) ?_
          refine OW.skip rfl rfl rfl ?_
          refine OW.skip rfl rfl rfl ?_
          refine OW.skip rfl rfl rfl ?_
          refine OW.skip rfl rfl rfl ?_
          refine OW.want rfl ?_
          refine OW.rv (RV.pick_f rfl rfl rfl) rfl ?_
          refine OW.rv (RV.pick_f rfl rfl rfl) rfl ?_
          refine OW.rv (RV.move rfl) rfl ?_
          refine OW.want rfl ?_
          refine OW.rv (RV.field rfl rfl rfl rfl) rfl ?_
          refine OW.want rfl ?_
          refine OW.rv (RV.load rfl (List.Mem.head _) rfl rfl rfl rfl) rfl ?_
          refine OW.want rfl ?_
          refine OW.rv (RV.not rfl) rfl ?_
          refine OW.want rfl ?_
          refine OW.rv (RV.move rfl) rfl ?_
          by_cases h84 : a0.list = true
          · replace hq15 := if_t hq15 h84
            refine OW.slot (.bool false) (congrArg Value.bool (congrArg (fun b => !b) (h84))) ?_
            refine OW.skip rfl rfl rfl ?_
            refine OW.skip rfl rfl rfl ?_
            refine OW.skip rfl rfl rfl ?_
            refine OW.skip rfl rfl rfl ?_
            refine OW.want rfl ?_
            refine OW.rv (RV.pick_f rfl rfl rfl) rfl ?_
            refine OW.rv (RV.pick_f rfl rfl rfl) rfl ?_
            refine OW.nil ?_
            exact QW.join ⟨false, (Option.some.inj hq15).symm, rfl, rfl⟩ ⟨rfl, rfl, rfl, trivial⟩ (fun w m => m.pick [0] 1 rfl rfl)
          · replace hq15 := if_f hq15 h84
            refine OW.slot (.bool true) (congrArg Value.bool (congrArg (fun b => !b) (Bool.eq_false_iff.2 h84))) ?_
            refine OW.want rfl ?_
            refine OW.rv (RV.field rfl rfl rfl rfl) rfl ?_
            refine OW.want rfl ?_
            refine OW.rv (RV.load rfl (List.Mem.head _) rfl rfl rfl rfl) rfl ?_
            refine OW.want rfl ?_
            refine OW.rv (RV.len rfl rfl) rfl ?_
            refine OW.want rfl ?_
            refine OW.rv (RV.gtr rfl rfl) rfl ?_
            refine OW.slot (.bool (decide (0 < a0.items.length))) (congrArg Value.bool (decide_eq_decide.2 (by omega))) ?_
            refine OW.want rfl ?_
            refine OW.rv (RV.pick_t rfl rfl rfl) rfl ?_
            refine OW.rv (RV.pick_f rfl rfl rfl) rfl ?_
            refine OW.nil ?_
            exact QW.join ⟨(decide (0 < a0.items.length)), (Option.some.inj hq15).symm, rfl, rfl⟩ ⟨rfl, rfl, rfl, trivial⟩ (fun w m => m.pick [0] 1 rfl rfl)
theorem waybilllaw07_sound_does (w0 : World) (Φ : Ctx) (N : List Ent) (hΦ : ∀ w, Mem w0 w N → Φ w) (cs0_ : List Value) (a0 : It) (a1 : Nat) (res0 : Nat) (res1 : Bool) (ha0 : ItRd Φ cs0_ a0) (ba1 : a1 ≤ 9223372036854775807) (hf : waybilllaw07_sound a0 a1 = some (res0, res1)) : DoesG Try.prog 58 [.agg cs0_.toArray, .int .i64 ((a1 : Nat) : Int)] w0 [] N (fun v G => (res0 ≤ 9223372036854775807) ∧ v = .tuple #[.int .i64 ((res0 : Nat) : Int), .bool res1]) := waybilllaw07_sound_rec w0 _ Φ N hΦ cs0_ a0 a1 res0 res1 ha0 ba1 hf
theorem waybilllaw07_RlpParts_does (w0 : World) (Φ : Ctx) (N : List Ent) (hΦ : ∀ w, Mem w0 w N → Φ w) (A0_ : Option Addr) (c0_ : Nat) (cs0_ : List Value) (a0 : List (It)) (A1_ : Option Addr) (c1_ : Nat) (a1 : List (BitVec 8)) (res0 : Bool) (va0 : View Φ A0_ a0.length c0_ 3 cs0_) (ha0 : Reps (ItRd Φ) cs0_ a0) (va1 : View Φ A1_ a1.length c1_ 1 (u8s a1)) (hf : waybilllaw07_RlpParts a0 a1 = some res0) : DoesG Try.prog 10 [.slice A0_ a0.length c0_, .slice A1_ a1.length c1_] w0 [] N (fun v G => v = .bool res0) := by
  unfold waybilllaw07_RlpParts at hf
  replace va0 := va0.mono (Ψ := More w0 Φ []) (fun w q => q.1)
  replace va1 := va1.mono (Ψ := More w0 Φ []) (fun w q => q.1)
  replace ha0 := ha0.mono (ItRd.mono (Ψ := More w0 Φ []) (fun w q => q.1))
  have m1 := va0.mx
  have m2 := va1.mx
  refine DoesG.enter Try.func10 rfl Try.ntmps10 rfl (M := (([] ++ N))) rfl ?_
  refine CW.seq ?_
  refine CW.region ?_
  refine OW.rv (RV.assign rfl) rfl ?_
  refine OW.nil ?_
  refine QW.then_n ?_
  refine CW.seq ?_
  refine CW.region ?_
  refine OW.rv (RV.move rfl) rfl ?_
  refine OW.rv (RV.buildSt (l := [.bool false, .slice none 0 0, .slice none 0 0]) (cs := [.bool true, .slice none 0 0, .slice A0_ a0.length c0_]) [(0, [.bool true]), (2, [.slice A0_ a0.length c0_])] rfl rfl rfl rfl rfl rfl rfl) rfl ?_
  refine OW.alloc (l := [.bool false, .slice none 0 0, .slice none 0 0]) rfl rfl rfl (fun b3 => ?_)
  refine OW.sv (SV.storeW rfl rfl rfl (by intro u hu; simp at hu; rcases hu with rfl | rfl | rfl <;> rfl) rfl rfl rfl) ?_
  refine OW.nil ?_
  refine QW.then_n ?_
  refine CW.seq ?_
  refine CW.region ?_
  refine OW.rv (RV.loadW rfl (List.Mem.head _) rfl rfl rfl rfl rfl) rfl ?_
  have v4 : View (More w0 Φ []) none ([] : List (BitVec 8)).length 0 1 (u8s []) := View.nil
  obtain ⟨⟨x6, x7⟩, hx5, hf⟩ := some_bind hf
  try dsimp only at hf
  refine OW.callG Try.call58 rfl (waybilllaw07_sound_does w0 (More w0 Φ []) ((some b3, blk [.bool true, .slice none 0 0, .slice A0_ a0.length c0_] 29) :: ([] ++ N)) (fun w m => More.of hΦ 1 m rfl) [.bool true, .slice none 0 0, .slice A0_ a0.length c0_] (It.mk true ([] : List (BitVec 8)) a0) 0 x6 x7 (ItRd.mk v4 va0 ha0) (by omega) hx5) rfl rfl ?_
  rintro _ G9 ⟨b8, rfl⟩
  refine OW.mem (M' := ((some b3, blk [.bool true, .slice none 0 0, .slice A0_ a0.length c0_] 29) :: ([] ++ N))) (fun w m => m.appR) ?_
  refine OW.rv (RV.move rfl) rfl ?_
  refine OW.rv (RV.extract rfl rfl) rfl ?_
  refine OW.slot (.int .i64 ((x6 : Nat) : Int)) (rfl) ?_
  refine OW.rv (RV.extract rfl rfl) rfl ?_
  refine OW.slot (.bool (x7)) (rfl) ?_
  refine OW.rv (RV.assign rfl) rfl ?_
  refine OW.rv (RV.assign rfl) rfl ?_
  refine OW.nil ?_
  refine QW.then_n ?_
  refine CW.seq ?_
  refine CW.seq ?_
  refine CW.region ?_
  refine OW.rv (RV.move rfl) rfl ?_
  refine OW.nil ?_
  refine QW.then_n ?_
  obtain ⟨q11, hq12, hf⟩ := some_bind hf
  refine CW.cutJ (fun L' M' => ∃ B13 : List Ent, q11 = Lp.go () ∧ (∀ w, Mem w0 w B13 → Mem w0 w []) ∧ L' = [(1, .slice A1_ a1.length c1_)] ∧ M' = ((B13 ++ N))) ?_ ?_
  · rintro L16 M17 ⟨B13, e15, hB14, e18, e19⟩
    rw [e18, e19]
    clear e18 e19 L16 M17
    clear hq12
    rw [e15] at hf
    clear e15
    try dsimp only at hf
    replace va1 := va1.mono (Ψ := More w0 Φ B13) (fun w q => More.mono (fun w m => hB14 w (m)) q)
    refine QW.then_n ?_
    refine CW.seq ?_
    refine CW.region ?_
    refine OW.ofN (NV.bs1 rfl rfl rfl rfl rfl rfl) rfl (fun b20 => ?_)
    refine OW.mem (M' := (((some b20), blk ((u8s ([192#8] : List (BitVec 8))) ++ []) 5) :: (B13 ++ N))) (fun w m => by first | exact m | simpa [u8s] using m) ?_
    have o21 : OwnS (some b20) ([192#8] : List (BitVec 8)).length 1 1 (u8s ([192#8] : List (BitVec 8))) [] := ⟨by simp [u8s], by simp [u8s], (fun h => nomatch h), by simp⟩
    refine OW.slot (sl (some b20) 0 ([192#8] : List (BitVec 8)).length 1) (rfl) ?_
    refine OW.mem (M' := ((((some b20), blk ((u8s ([192#8] : List (BitVec 8))) ++ []) 5) :: B13) ++ N)) (fun w m => m.pick [0] 1 rfl rfl) ?_
    replace va1 := va1.mono (Ψ := More w0 Φ (((some b20), blk ((u8s ([192#8] : List (BitVec 8))) ++ []) 5) :: B13)) (fun w q => More.mono (fun w m => (m).tail) q)
    have v22 : View (More w0 Φ (((some b20), blk ((u8s ([192#8] : List (BitVec 8))) ++ []) 5) :: B13)) (((some b20)).map fun k => ⟨k, 0, none⟩) ([192#8] : List (BitVec 8)).length 1 1 (u8s ([192#8] : List (BitVec 8))) := o21.view (by decide) (fun w q => q.2.sublist (List.singleton_sublist.2 (List.mem_cons_self ..)))
    obtain ⟨⟨x24, x25⟩, hx23, hf⟩ := some_bind hf
    try dsimp only at hf
    refine OW.callG Try.call47 rfl (rlp_Parts_does w0 (More w0 Φ (((some b20), blk ((u8s ([192#8] : List (BitVec 8))) ++ []) 5) :: B13)) (((((some b20), blk ((u8s ([192#8] : List (BitVec 8))) ++ []) 5) :: B13) ++ N)) (fun w m => More.of hΦ 0 m rfl) (((some b20)).map fun k => ⟨k, 0, none⟩) 1 ([192#8] : List (BitVec 8)) x24 x25 v22 hx23) rfl rfl ?_
    rintro L34 M35 ⟨B26, cs27, ob29, c30, r31, h28, o32, b33, e36, e37⟩
    rw [e36, e37]
    clear e36 e37 L34 M35
    refine OW.mem (M' := ((ob29, blk (cs27 ++ r31) 22) :: ((B26 ++ (((some b20), blk ((u8s ([192#8] : List (BitVec 8))) ++ []) 5) :: B13)) ++ N))) (fun w m => by have h := Mem.sinkAt (A := B26) m 1 0 rfl rfl; exact h) ?_
    replace va1 := va1.mono (Ψ := More w0 Φ (B26 ++ (((some b20), blk ((u8s ([192#8] : List (BitVec 8))) ++ []) 5) :: B13))) (fun w q => More.mono (fun w m => (m).appR) q)
    replace v22 := v22.mono (Ψ := More w0 Φ (B26 ++ (((some b20), blk ((u8s ([192#8] : List (BitVec 8))) ++ []) 5) :: B13))) (fun w q => More.mono (fun w m => (m).appR) q)
    replace h28 := h28.mono (BsRd.mono (Ψ := (More w0 Φ (B26 ++ (((some b20), blk ((u8s ([192#8] : List (BitVec 8))) ++ []) 5) :: B13)))) (fun w q => More.flat q))
    have m38 := o32.mx
    refine OW.rv (RV.move rfl) rfl ?_
    refine OW.rv (RV.extract rfl rfl) rfl ?_
    refine OW.slot (sl ob29 0 x24.length c30) (rfl) ?_
    refine OW.rv (RV.extract rfl rfl) rfl ?_
    refine OW.slot (.int .i64 ((x25 : Nat) : Int)) (rfl) ?_
    refine OW.rv (RV.assign rfl) rfl ?_
    refine OW.rv (RV.assign rfl) rfl ?_
    refine OW.nil ?_
    refine QW.then_n ?_
    refine CW.seq ?_
    refine CW.seq ?_
    obtain ⟨q39, hq40, hf⟩ := some_bind hf
    refine CW.cutJ (fun L' M' => ∃ p41 : Bool, q39 = p41 ∧ L' = [(1, .slice A1_ a1.length c1_), (105, .bool (p41))] ∧ M' = (((B26 ++ (((some b20), blk ((u8s ([192#8] : List (BitVec 8))) ++ []) 5) :: B13)) ++ N))) ?_ ?_
    · rintro L43 M44 ⟨p41, e42, e45, e46⟩
      rw [e45, e46]
      clear e45 e46 L43 M44
      clear hq40
      rw [e42] at hf
      clear e42
      try dsimp only at hf
      refine QW.then_n ?_
      by_cases h47 : p41 = true
      · replace hf := if_t hf h47
        refine CW.is_t rfl (h47) ?_
        refine CW.seq ?_
        refine CW.region ?_
        refine OW.rv (RV.assign rfl) rfl ?_
        refine OW.nil ?_
        refine QW.then_n ?_
        refine CW.ret ?_
        refine QW.then_r ?_
        have e0 := Option.some.inj hf
        subst e0
        refine QW.retG (rs := [.tmp 4]) ([.bool false]) ((B26 ++ (((some b20), blk ((u8s ([192#8] : List (BitVec 8))) ++ []) 5) :: B13))) rfl ?_ rfl ?_ ?_ _ (.inl rfl)
        · exact ⟨rfl, trivial⟩
        · exact rfl
        · exact (fun w m => m)
      · replace hf := if_f hf h47
        refine CW.is_f rfl (Bool.eq_false_iff.2 h47) ?_
        refine CW.skip ?_
        refine QW.then_n ?_
        refine CW.seq ?_
        refine CW.region ?_
        refine OW.rv (RV.move rfl) rfl ?_
        obtain ⟨⟨x49, x50⟩, hx48, hf⟩ := some_bind hf
        try dsimp only at hf
        refine OW.callG Try.call47 rfl (rlp_Parts_does w0 (More w0 Φ (B26 ++ (((some b20), blk ((u8s ([192#8] : List (BitVec 8))) ++ []) 5) :: B13))) (((B26 ++ (((some b20), blk ((u8s ([192#8] : List (BitVec 8))) ++ []) 5) :: B13)) ++ N)) (fun w m => More.of hΦ 0 m rfl) A1_ c1_ a1 x49 x50 va1 hx48) rfl rfl ?_
        rintro L59 M60 ⟨B51, cs52, ob54, c55, r56, h53, o57, b58, e61, e62⟩
        rw [e61, e62]
        clear e61 e62 L59 M60
        refine OW.mem (M' := ((ob54, blk (cs52 ++ r56) 22) :: ((B51 ++ (B26 ++ (((some b20), blk ((u8s ([192#8] : List (BitVec 8))) ++ []) 5) :: B13))) ++ N))) (fun w m => by have h := Mem.sinkAt (A := B51) m 1 0 rfl rfl; exact h) ?_
        replace va1 := va1.mono (Ψ := More w0 Φ (B51 ++ (B26 ++ (((some b20), blk ((u8s ([192#8] : List (BitVec 8))) ++ []) 5) :: B13)))) (fun w q => More.mono (fun w m => (m).appR) q)
        replace h53 := h53.mono (BsRd.mono (Ψ := (More w0 Φ (B51 ++ (B26 ++ (((some b20), blk ((u8s ([192#8] : List (BitVec 8))) ++ []) 5) :: B13))))) (fun w q => More.flat q))
        have m63 := o57.mx
        refine OW.rv (RV.move rfl) rfl ?_
        refine OW.rv (RV.extract rfl rfl) rfl ?_
        refine OW.slot (sl ob54 0 x49.length c55) (rfl) ?_
        refine OW.rv (RV.extract rfl rfl) rfl ?_
        refine OW.slot (.int .i64 ((x50 : Nat) : Int)) (rfl) ?_
        refine OW.rv (RV.assign rfl) rfl ?_
        refine OW.rv (RV.assign rfl) rfl ?_
        refine OW.nil ?_
        refine QW.then_n ?_
        refine CW.seq ?_
        refine CW.seq ?_
        refine CW.region ?_
        refine OW.rv (RV.move rfl) rfl ?_
        refine OW.rv (RV.neq rfl rfl) rfl ?_
        refine OW.slot (.bool (!decide (x50 = 0))) (congrArg (fun b => Value.bool (!b)) (decide_eq_decide.2 (by omega))) ?_
        refine OW.nil ?_
        refine QW.then_n ?_
        by_cases h64 : x50 = 0
        · replace hf := if_t hf h64
          refine CW.is_f rfl (congrArg (fun b => !b) (decide_eq_true h64)) ?_
          refine CW.skip ?_
          refine QW.then_n ?_
          refine CW.seq ?_
          refine CW.region ?_
          refine OW.rv (RV.move rfl) rfl ?_
          refine OW.mem (M' := (((ob54, blk (cs52 ++ r56) 22) :: (B51 ++ (B26 ++ (((some b20), blk ((u8s ([192#8] : List (BitVec 8))) ++ []) 5) :: B13)))) ++ N)) (fun w m => m.pick [0] 1 rfl rfl) ?_
          replace va1 := va1.mono (Ψ := More w0 Φ ((ob54, blk (cs52 ++ r56) 22) :: (B51 ++ (B26 ++ (((some b20), blk ((u8s ([192#8] : List (BitVec 8))) ++ []) 5) :: B13))))) (fun w q => More.mono (fun w m => (m).tail) q)
          replace h53 := h53.mono (BsRd.mono (Ψ := More w0 Φ ((ob54, blk (cs52 ++ r56) 22) :: (B51 ++ (B26 ++ (((some b20), blk ((u8s ([192#8] : List (BitVec 8))) ++ []) 5) :: B13))))) (fun w q => More.mono (fun w m => (m).tail) q))
          have v65 : View (More w0 Φ ((ob54, blk (cs52 ++ r56) 22) :: (B51 ++ (B26 ++ (((some b20), blk ((u8s ([192#8] : List (BitVec 8))) ++ []) 5) :: B13))))) ((ob54).map fun k => ⟨k, 0, none⟩) x49.length c55 1 cs52 := o57.view (by decide) (fun w q => q.2.sublist (List.singleton_sublist.2 (List.mem_cons_self ..)))
          obtain ⟨⟨x67, x68⟩, hx66, hf⟩ := some_bind hf
          try dsimp only at hf
          refine OW.callG Try.call29 rfl (rlp_Join_does w0 (More w0 Φ ((ob54, blk (cs52 ++ r56) 22) :: (B51 ++ (B26 ++ (((some b20), blk ((u8s ([192#8] : List (BitVec 8))) ++ []) 5) :: B13))))) ((((ob54, blk (cs52 ++ r56) 22) :: (B51 ++ (B26 ++ (((some b20), blk ((u8s ([192#8] : List (BitVec 8))) ++ []) 5) :: B13)))) ++ N)) (fun w m => More.of hΦ 0 m rfl) ((ob54).map fun k => ⟨k, 0, none⟩) c55 cs52 x49 x67 x68 v65 h53 hx66) rfl rfl ?_
          rintro L75 M76 ⟨B69, ob70, c71, r72, o73, b74, e77, e78⟩
          rw [e77, e78]
          clear e77 e78 L75 M76
          refine OW.mem (M' := ((ob70, blk ((u8s x67) ++ r72) 5) :: ((B69 ++ ((ob54, blk (cs52 ++ r56) 22) :: (B51 ++ (B26 ++ (((some b20), blk ((u8s ([192#8] : List (BitVec 8))) ++ []) 5) :: B13))))) ++ N))) (fun w m => by have h := Mem.sinkAt (A := B69) m 1 0 rfl rfl; exact h) ?_
          replace va1 := va1.mono (Ψ := More w0 Φ (B69 ++ ((ob54, blk (cs52 ++ r56) 22) :: (B51 ++ (B26 ++ (((some b20), blk ((u8s ([192#8] : List (BitVec 8))) ++ []) 5) :: B13)))))) (fun w q => More.mono (fun w m => (m).appR) q)
          replace v65 := v65.mono (Ψ := More w0 Φ (B69 ++ ((ob54, blk (cs52 ++ r56) 22) :: (B51 ++ (B26 ++ (((some b20), blk ((u8s ([192#8] : List (BitVec 8))) ++ []) 5) :: B13)))))) (fun w q => More.mono (fun w m => (m).appR) q)
          replace h53 := h53.mono (BsRd.mono (Ψ := More w0 Φ (B69 ++ ((ob54, blk (cs52 ++ r56) 22) :: (B51 ++ (B26 ++ (((some b20), blk ((u8s ([192#8] : List (BitVec 8))) ++ []) 5) :: B13)))))) (fun w q => More.mono (fun w m => (m).appR) q))
          have m79 := o73.mx
          refine OW.rv (RV.move rfl) rfl ?_
          refine OW.rv (RV.extract rfl rfl) rfl ?_
          refine OW.slot (sl ob70 0 x67.length c71) (rfl) ?_
          refine OW.rv (RV.extract rfl rfl) rfl ?_
          refine OW.slot (.int .i64 ((x68 : Nat) : Int)) (rfl) ?_
          refine OW.rv (RV.assign rfl) rfl ?_
          refine OW.rv (RV.assign rfl) rfl ?_
          refine OW.nil ?_
          refine QW.then_n ?_
          refine CW.seq ?_
          obtain ⟨q80, hq81, hf⟩ := some_bind hf
          refine CW.cutJ (fun L' M' => ∃ p84 : Bool, ∃ B82 : List Ent, q80 = p84 ∧ (∀ w, Mem w0 w B82 → Mem w0 w (B69 ++ ((ob54, blk (cs52 ++ r56) 22) :: (B51 ++ (B26 ++ (((some b20), blk ((u8s ([192#8] : List (BitVec 8))) ++ []) 5) :: B13)))))) ∧ L' = [(4, .bool (p84))] ∧ M' = ((B82 ++ N))) ?_ ?_
          · rintro L86 M87 ⟨p84, B82, e85, hB83, e88, e89⟩
            rw [e88, e89]
            clear e88 e89 L86 M87
            clear hq81
            rw [e85] at hf
            clear e85
            try dsimp only at hf
            refine QW.then_n ?_
            refine CW.ret ?_
            have e0 := Option.some.inj hf
            subst e0
            refine QW.retG (rs := [.tmp 4]) ([.bool (p84)]) (B82) rfl ?_ rfl ?_ ?_ _ (.inl rfl)
            · exact ⟨rfl, trivial⟩
            · exact rfl
            · exact (fun w m => m)
          · skip
            refine CW.region ?_
            refine OW.rv (RV.move rfl) rfl ?_
            refine OW.rv (RV.eql rfl rfl) rfl ?_
            refine OW.slot (.bool (decide (x68 = 0))) (congrArg Value.bool (decide_eq_decide.2 (by omega))) ?_
            refine OW.rv (RV.move rfl) rfl ?_
            by_cases h90 : x68 = 0
            · replace hq81 := if_t hq81 h90
              refine OW.slot (.bool true) (congrArg Value.bool (decide_eq_true h90)) ?_
              refine OW.want rfl ?_
              refine OW.rv (RV.move rfl) rfl ?_
              refine OW.want rfl ?_
              refine OW.rv (RV.move rfl) rfl ?_
              refine OW.want rfl ?_
              refine OW.mem (M' := (((ob70, blk ((u8s x67) ++ r72) 5) :: (B69 ++ ((ob54, blk (cs52 ++ r56) 22) :: (B51 ++ (B26 ++ (((some b20), blk ((u8s ([192#8] : List (BitVec 8))) ++ []) 5) :: B13)))))) ++ N)) (fun w m => m.pick [0] 1 rfl rfl) ?_
              replace va1 := va1.mono (Ψ := More w0 Φ ((ob70, blk ((u8s x67) ++ r72) 5) :: (B69 ++ ((ob54, blk (cs52 ++ r56) 22) :: (B51 ++ (B26 ++ (((some b20), blk ((u8s ([192#8] : List (BitVec 8))) ++ []) 5) :: B13))))))) (fun w q => More.mono (fun w m => (m).tail) q)
              replace v65 := v65.mono (Ψ := More w0 Φ ((ob70, blk ((u8s x67) ++ r72) 5) :: (B69 ++ ((ob54, blk (cs52 ++ r56) 22) :: (B51 ++ (B26 ++ (((some b20), blk ((u8s ([192#8] : List (BitVec 8))) ++ []) 5) :: B13))))))) (fun w q => More.mono (fun w m => (m).tail) q)
              replace h53 := h53.mono (BsRd.mono (Ψ := More w0 Φ ((ob70, blk ((u8s x67) ++ r72) 5) :: (B69 ++ ((ob54, blk (cs52 ++ r56) 22) :: (B51 ++ (B26 ++ (((some b20), blk ((u8s ([192#8] : List (BitVec 8))) ++ []) 5) :: B13))))))) (fun w q => More.mono (fun w m => (m).tail) q))
              have v91 : View (More w0 Φ ((ob70, blk ((u8s x67) ++ r72) 5) :: (B69 ++ ((ob54, blk (cs52 ++ r56) 22) :: (B51 ++ (B26 ++ (((some b20), blk ((u8s ([192#8] : List (BitVec 8))) ++ []) 5) :: B13))))))) ((ob70).map fun k => ⟨k, 0, none⟩) x67.length c71 1 (u8s x67) := o73.view (by decide) (fun w q => q.2.sublist (List.singleton_sublist.2 (List.mem_cons_self ..)))
              obtain ⟨x93, hx92, hq81⟩ := some_bind hq81
              refine OW.callG Try.call26 rfl (waybilllaw07_same_does w0 (More w0 Φ ((ob70, blk ((u8s x67) ++ r72) 5) :: (B69 ++ ((ob54, blk (cs52 ++ r56) 22) :: (B51 ++ (B26 ++ (((some b20), blk ((u8s ([192#8] : List (BitVec 8))) ++ []) 5) :: B13))))))) ((((ob70, blk ((u8s x67) ++ r72) 5) :: (B69 ++ ((ob54, blk (cs52 ++ r56) 22) :: (B51 ++ (B26 ++ (((some b20), blk ((u8s ([192#8] : List (BitVec 8))) ++ []) 5) :: B13)))))) ++ N)) (fun w m => More.of hΦ 0 m rfl) ((ob70).map fun k => ⟨k, 0, none⟩) c71 x67 A1_ c1_ a1 x93 v91 va1 hx92) rfl rfl ?_
              rintro _ G94 rfl
              refine OW.mem (M' := ((((ob70, blk ((u8s x67) ++ r72) 5) :: (B69 ++ ((ob54, blk (cs52 ++ r56) 22) :: (B51 ++ (B26 ++ (((some b20), blk ((u8s ([192#8] : List (BitVec 8))) ++ []) 5) :: B13)))))) ++ N))) (fun w m => m.appR) ?_
              refine OW.rv (RV.pick_t rfl rfl rfl) rfl ?_
              refine OW.rv (RV.assign rfl) rfl ?_
              refine OW.nil ?_
              exact QW.join ⟨(x93), ((ob70, blk ((u8s x67) ++ r72) 5) :: (B69 ++ ((ob54, blk (cs52 ++ r56) 22) :: (B51 ++ (B26 ++ (((some b20), blk ((u8s ([192#8] : List (BitVec 8))) ++ []) 5) :: B13)))))), (Option.some.inj hq81).symm, (fun w m => (m).tail), rfl, rfl⟩ ⟨rfl, trivial⟩ (fun w m => m.pick [] 0 rfl rfl)
            · replace hq81 := if_f hq81 h90
              refine OW.slot (.bool false) (congrArg Value.bool (decide_eq_false h90)) ?_
              refine OW.skip rfl rfl rfl ?_
              refine OW.skip rfl rfl rfl ?_
              refine OW.skip rfl rfl rfl ?_
              refine OW.rv (RV.pick_f rfl rfl rfl) rfl ?_
              refine OW.rv (RV.assign rfl) rfl ?_
              refine OW.nil ?_
              exact QW.join ⟨false, (B69 ++ ((ob54, blk (cs52 ++ r56) 22) :: (B51 ++ (B26 ++ (((some b20), blk ((u8s ([192#8] : List (BitVec 8))) ++ []) 5) :: B13))))), (Option.some.inj hq81).symm, (fun w m => m), rfl, rfl⟩ ⟨rfl, trivial⟩ (fun w m => m.pick [] 1 rfl rfl)
        · replace hf := if_f hf h64
          refine CW.is_t rfl (congrArg (fun b => !b) (decide_eq_false h64)) ?_
          refine CW.seq ?_
          refine CW.region ?_
          refine OW.rv (RV.move rfl) rfl ?_
          refine OW.rv (RV.len rfl rfl) rfl ?_
          refine OW.rv (RV.eql rfl rfl) rfl ?_
          refine OW.slot (.bool (decide (x49.length = 0))) (congrArg Value.bool (decide_eq_decide.2 (by omega))) ?_
          refine OW.rv (RV.assign rfl) rfl ?_
          refine OW.nil ?_
          refine QW.then_n ?_
          refine CW.ret ?_
          refine QW.then_r ?_
          have e0 := Option.some.inj hf
          subst e0
          refine QW.retG (rs := [.tmp 4]) ([.bool (decide (x49.length = 0))]) ((ob54, blk (cs52 ++ r56) 22) :: (B51 ++ (B26 ++ (((some b20), blk ((u8s ([192#8] : List (BitVec 8))) ++ []) 5) :: B13)))) rfl ?_ rfl ?_ ?_ _ (.inl rfl)
          · exact ⟨rfl, trivial⟩
          · exact rfl
          · exact (fun w m => m)
    · skip
      refine CW.region ?_
      refine OW.rv (RV.move rfl) rfl ?_
      refine OW.rv (RV.neq rfl rfl) rfl ?_
      refine OW.slot (.bool (!decide (x25 = 0))) (congrArg (fun b => Value.bool (!b)) (decide_eq_decide.2 (by omega))) ?_
      refine OW.rv (RV.move rfl) rfl ?_
      by_cases h96 : x25 = 0
      · replace hq40 := if_t hq40 h96
        refine OW.slot (.bool false) (congrArg Value.bool (congrArg (fun b => !b) (decide_eq_true h96))) ?_
        refine OW.want rfl ?_
        refine OW.rv (RV.move rfl) rfl ?_
        refine OW.want rfl ?_
        refine OW.rv (RV.len rfl rfl) rfl ?_
        refine OW.want rfl ?_
        refine OW.rv (RV.neq rfl rfl) rfl ?_
        refine OW.slot (.bool (!decide (x24.length = 0))) (congrArg (fun b => Value.bool (!b)) (decide_eq_decide.2 (by omega))) ?_
        refine OW.rv (RV.pick_f rfl rfl rfl) rfl ?_
        refine OW.nil ?_
        exact QW.join ⟨(!decide (x24.length = 0)), (Option.some.inj hq40).symm, rfl, rfl⟩ ⟨rfl, rfl, trivial⟩ (fun w m => m.pick [] 1 rfl rfl)
      · replace hq40 := if_f hq40 h96
        refine OW.slot (.bool true) (congrArg Value.bool (congrArg (fun b => !b) (decide_eq_false h96))) ?_
        refine OW.skip rfl rfl rfl ?_
        refine OW.skip rfl rfl rfl ?_
        refine OW.skip rfl rfl rfl ?_
        refine OW.rv (RV.pick_t rfl rfl rfl) rfl ?_
        refine OW.nil ?_
        exact QW.join ⟨true, (Option.some.inj hq40).symm, rfl, rfl⟩ ⟨rfl, rfl, trivial⟩ (fun w m => m.pick [] 1 rfl rfl)
  · skip
    by_cases h97 : x7 = true
    · replace hq12 := if_t hq12 h97
      refine CW.is_t rfl (h97) ?_
      refine CW.seq ?_
      refine CW.region ?_
      refine OW.rv (RV.loadW rfl (List.Mem.head _) rfl rfl rfl rfl rfl) rfl ?_
      have v98 : View (More w0 Φ []) none ([] : List (BitVec 8)).length 0 1 (u8s []) := View.nil
      obtain ⟨x100, hx99, hq12⟩ := some_bind hq12
      refine OW.callG Try.call57 rfl (waybilllaw07_twin_does w0 (More w0 Φ []) ((some b3, blk [.bool true, .slice none 0 0, .slice A0_ a0.length c0_] 29) :: ([] ++ N)) (fun w m => More.of hΦ 1 m rfl) [.bool true, .slice none 0 0, .slice A0_ a0.length c0_] (It.mk true ([] : List (BitVec 8)) a0) x100 (ItRd.mk v98 va0 ha0) hx99) rfl rfl ?_
      rintro L104 M105 ⟨B101, cs102, h103, e106, e107⟩
      rw [e106, e107]
      clear e106 e107 L104 M105
      refine OW.mem (M' := ((some b3, blk [.bool true, .slice none 0 0, .slice A0_ a0.length c0_] 29) :: ((B101 ++ []) ++ N))) (fun w m => by have h := Mem.sinkAt (A := B101) m 0 1 rfl rfl; exact h) ?_
      replace va0 := va0.mono (Ψ := More w0 Φ (B101 ++ [])) (fun w q => More.mono (fun w m => (m).appR) q)
      replace ha0 := ha0.mono (ItRd.mono (Ψ := More w0 Φ (B101 ++ [])) (fun w q => More.mono (fun w m => (m).appR) q))
      replace va1 := va1.mono (Ψ := More w0 Φ (B101 ++ [])) (fun w q => More.mono (fun w m => (m).appR) q)
      replace h103 := ItRd.mono (Ψ := (More w0 Φ (B101 ++ []))) (fun w q => More.flat q) _ _ h103
      have h117 := h103
      obtain ⟨A108, c109, A111, c112, cs114, e116, v110, v113, h115⟩ := ItRd.opn h103
      subst e116
      have m118 := v110.mx
      have m119 := v113.mx
      have m120 := v110.mx
      have m121 := v113.mx
      obtain ⟨⟨x123, x124⟩, hx122, hq12⟩ := some_bind hq12
      try dsimp only at hq12
      refine OW.callG Try.call53 rfl (rlp_Encode_does w0 (More w0 Φ (B101 ++ [])) ((some b3, blk [.bool true, .slice none 0 0, .slice A0_ a0.length c0_] 29) :: ((B101 ++ []) ++ N)) (fun w m => More.of hΦ 1 m rfl) [.bool (x100.list), .slice A108 x100.data.length c109, .slice A111 x100.items.length c112] x100 x123 x124 h117 hx122) rfl rfl ?_
      rintro L131 M132 ⟨B125, ob126, c127, r128, o129, b130, e133, e134⟩
      rw [e133, e134]
      clear e133 e134 L131 M132
      refine OW.mem (M' := ((ob126, blk ((u8s x123) ++ r128) 5) :: (some b3, blk [.bool true, .slice none 0 0, .slice A0_ a0.length c0_] 29) :: ((B125 ++ (B101 ++ [])) ++ N))) (fun w m => by have h := Mem.sinkAt (A := B125) m 1 1 rfl rfl; exact h) ?_
      replace va0 := va0.mono (Ψ := More w0 Φ (B125 ++ (B101 ++ []))) (fun w q => More.mono (fun w m => (m).appR) q)
      replace ha0 := ha0.mono (ItRd.mono (Ψ := More w0 Φ (B125 ++ (B101 ++ []))) (fun w q => More.mono (fun w m => (m).appR) q))
      replace va1 := va1.mono (Ψ := More w0 Φ (B125 ++ (B101 ++ []))) (fun w q => More.mono (fun w m => (m).appR) q)
      replace h117 := ItRd.mono (Ψ := More w0 Φ (B125 ++ (B101 ++ []))) (fun w q => More.mono (fun w m => (m).appR) q) _ _ h117
      replace v110 := v110.mono (Ψ := More w0 Φ (B125 ++ (B101 ++ []))) (fun w q => More.mono (fun w m => (m).appR) q)
      replace v113 := v113.mono (Ψ := More w0 Φ (B125 ++ (B101 ++ []))) (fun w q => More.mono (fun w m => (m).appR) q)
      replace h115 := h115.mono (ItRd.mono (Ψ := More w0 Φ (B125 ++ (B101 ++ []))) (fun w q => More.mono (fun w m => (m).appR) q))
      have m135 := o129.mx
      refine OW.rv (RV.move rfl) rfl ?_
      refine OW.rv (RV.extract rfl rfl) rfl ?_
      refine OW.slot (sl ob126 0 x123.length c127) (rfl) ?_
      refine OW.rv (RV.extract rfl rfl) rfl ?_
      refine OW.slot (.int .i64 ((x124 : Nat) : Int)) (rfl) ?_
      refine OW.rv (RV.assign rfl) rfl ?_
      refine OW.rv (RV.assign rfl) rfl ?_
      refine OW.nil ?_
      refine QW.then_n ?_
      refine CW.seq ?_
      refine CW.region ?_
      refine OW.rv (RV.move rfl) rfl ?_
      refine OW.mem (M' := (some b3, blk [.bool true, .slice none 0 0, .slice A0_ a0.length c0_] 29) :: (((ob126, blk ((u8s x123) ++ r128) 5) :: (B125 ++ (B101 ++ []))) ++ N)) (fun w m => m.pick [1, 0] 2 rfl rfl) ?_
      replace va0 := va0.mono (Ψ := More w0 Φ ((ob126, blk ((u8s x123) ++ r128) 5) :: (B125 ++ (B101 ++ [])))) (fun w q => More.mono (fun w m => (m).tail) q)
      replace ha0 := ha0.mono (ItRd.mono (Ψ := More w0 Φ ((ob126, blk ((u8s x123) ++ r128) 5) :: (B125 ++ (B101 ++ [])))) (fun w q => More.mono (fun w m => (m).tail) q))
      replace va1 := va1.mono (Ψ := More w0 Φ ((ob126, blk ((u8s x123) ++ r128) 5) :: (B125 ++ (B101 ++ [])))) (fun w q => More.mono (fun w m => (m).tail) q)
      replace h117 := ItRd.mono (Ψ := More w0 Φ ((ob126, blk ((u8s x123) ++ r128) 5) :: (B125 ++ (B101 ++ [])))) (fun w q => More.mono (fun w m => (m).tail) q) _ _ h117
      replace v110 := v110.mono (Ψ := More w0 Φ ((ob126, blk ((u8s x123) ++ r128) 5) :: (B125 ++ (B101 ++ [])))) (fun w q => More.mono (fun w m => (m).tail) q)
      replace v113 := v113.mono (Ψ := More w0 Φ ((ob126, blk ((u8s x123) ++ r128) 5) :: (B125 ++ (B101 ++ [])))) (fun w q => More.mono (fun w m => (m).tail) q)
      replace h115 := h115.mono (ItRd.mono (Ψ := More w0 Φ ((ob126, blk ((u8s x123) ++ r128) 5) :: (B125 ++ (B101 ++ [])))) (fun w q => More.mono (fun w m => (m).tail) q))
      have v136 : View (More w0 Φ ((ob126, blk ((u8s x123) ++ r128) 5) :: (B125 ++ (B101 ++ [])))) ((ob126).map fun k => ⟨k, 0, none⟩) x123.length c127 1 (u8s x123) := o129.view (by decide) (fun w q => q.2.sublist (List.singleton_sublist.2 (List.mem_cons_self ..)))
      obtain ⟨⟨x138, x139⟩, hx137, hq12⟩ := some_bind hq12
      try dsimp only at hq12
      refine OW.callG Try.call47 rfl (rlp_Parts_does w0 (More w0 Φ ((ob126, blk ((u8s x123) ++ r128) 5) :: (B125 ++ (B101 ++ [])))) ((some b3, blk [.bool true, .slice none 0 0, .slice A0_ a0.length c0_] 29) :: (((ob126, blk ((u8s x123) ++ r128) 5) :: (B125 ++ (B101 ++ []))) ++ N)) (fun w m => More.of hΦ 1 m rfl) ((ob126).map fun k => ⟨k, 0, none⟩) c127 x123 x138 x139 v136 hx137) rfl rfl ?_
      rintro L148 M149 ⟨B140, cs141, ob143, c144, r145, h142, o146, b147, e150, e151⟩
      rw [e150, e151]
      clear e150 e151 L148 M149
      refine OW.mem (M' := ((ob143, blk (cs141 ++ r145) 22) :: (some b3, blk [.bool true, .slice none 0 0, .slice A0_ a0.length c0_] 29) :: ((B140 ++ ((ob126, blk ((u8s x123) ++ r128) 5) :: (B125 ++ (B101 ++ [])))) ++ N))) (fun w m => by have h := Mem.sinkAt (A := B140) m 1 1 rfl rfl; exact h) ?_
      replace va0 := va0.mono (Ψ := More w0 Φ (B140 ++ ((ob126, blk ((u8s x123) ++ r128) 5) :: (B125 ++ (B101 ++ []))))) (fun w q => More.mono (fun w m => (m).appR) q)
      replace ha0 := ha0.mono (ItRd.mono (Ψ := More w0 Φ (B140 ++ ((ob126, blk ((u8s x123) ++ r128) 5) :: (B125 ++ (B101 ++ []))))) (fun w q => More.mono (fun w m => (m).appR) q))
      replace va1 := va1.mono (Ψ := More w0 Φ (B140 ++ ((ob126, blk ((u8s x123) ++ r128) 5) :: (B125 ++ (B101 ++ []))))) (fun w q => More.mono (fun w m => (m).appR) q)
      replace h117 := ItRd.mono (Ψ := More w0 Φ (B140 ++ ((ob126, blk ((u8s x123) ++ r128) 5) :: (B125 ++ (B101 ++ []))))) (fun w q => More.mono (fun w m => (m).appR) q) _ _ h117
      replace v110 := v110.mono (Ψ := More w0 Φ (B140 ++ ((ob126, blk ((u8s x123) ++ r128) 5) :: (B125 ++ (B101 ++ []))))) (fun w q => More.mono (fun w m => (m).appR) q)
      replace v113 := v113.mono (Ψ := More w0 Φ (B140 ++ ((ob126, blk ((u8s x123) ++ r128) 5) :: (B125 ++ (B101 ++ []))))) (fun w q => More.mono (fun w m => (m).appR) q)
      replace h115 := h115.mono (ItRd.mono (Ψ := More w0 Φ (B140 ++ ((ob126, blk ((u8s x123) ++ r128) 5) :: (B125 ++ (B101 ++ []))))) (fun w q => More.mono (fun w m => (m).appR) q))
      replace v136 := v136.mono (Ψ := More w0 Φ (B140 ++ ((ob126, blk ((u8s x123) ++ r128) 5) :: (B125 ++ (B101 ++ []))))) (fun w q => More.mono (fun w m => (m).appR) q)
      replace h142 := h142.mono (BsRd.mono (Ψ := (More w0 Φ (B140 ++ ((ob126, blk ((u8s x123) ++ r128) 5) :: (B125 ++ (B101 ++ [])))))) (fun w q => More.flat q))
      have m152 := o146.mx
      refine OW.rv (RV.move rfl) rfl ?_
      refine OW.rv (RV.extract rfl rfl) rfl ?_
      refine OW.slot (sl ob143 0 x138.length c144) (rfl) ?_
      refine OW.rv (RV.extract rfl rfl) rfl ?_
      refine OW.slot (.int .i64 ((x139 : Nat) : Int)) (rfl) ?_
      refine OW.rv (RV.assign rfl) rfl ?_
      refine OW.rv (RV.assign rfl) rfl ?_
      refine OW.nil ?_
      refine QW.then_n ?_
      refine CW.seq ?_
      refine CW.seq ?_
      obtain ⟨q153, hq154, hq12⟩ := some_bind hq12
      refine CW.cutJ (fun L' M' => ∃ p155 : Bool, q153 = p155 ∧ L' = [(0, .slice A0_ a0.length c0_), (1, .slice A1_ a1.length c1_), (8, .slice ((ob126).map fun k => ⟨k, 0, none⟩) x123.length c127), (10, sl ob143 0 x138.length c144), (54, .bool (p155))] ∧ M' = ((ob143, blk (cs141 ++ r145) 22) :: ((B140 ++ ((ob126, blk ((u8s x123) ++ r128) 5) :: (B125 ++ (B101 ++ [])))) ++ N))) ?_ ?_
      · rintro L157 M158 ⟨p155, e156, e159, e160⟩
        rw [e159, e160]
        clear e159 e160 L157 M158
        clear hq154
        rw [e156] at hq12
        clear e156
        try dsimp only at hq12
        have m161 := o146.mx
        refine QW.then_n ?_
        by_cases h162 : p155 = true
        · replace hq12 := if_t hq12 h162
          refine CW.is_t rfl (h162) ?_
          refine CW.seq ?_
          refine CW.region ?_
          refine OW.rv (RV.assign rfl) rfl ?_
          refine OW.nil ?_
          refine QW.then_n ?_
          refine CW.ret ?_
          refine QW.then_r ?_
          refine QW.then_r ?_
          have hc := Option.some.inj hq12
          subst hc
          try dsimp only at hf
          refine QW.then_r ?_
          have e0 := Option.some.inj hf
          subst e0
          refine QW.retG (rs := [.tmp 4]) ([.bool false]) ((ob143, blk (cs141 ++ r145) 22) :: (B140 ++ ((ob126, blk ((u8s x123) ++ r128) 5) :: (B125 ++ (B101 ++ []))))) rfl ?_ rfl ?_ ?_ _ (.inl rfl)
          · exact ⟨rfl, trivial⟩
          · exact rfl
          · exact (fun w m => m)
        · replace hq12 := if_f hq12 h162
          refine CW.is_f rfl (Bool.eq_false_iff.2 h162) ?_
          refine CW.skip ?_
          refine QW.then_n ?_
          refine CW.seq ?_
          refine CW.seq ?_
          refine CW.region ?_
          refine OW.rv (RV.assign rfl) rfl ?_
          refine OW.nil ?_
          refine QW.then_n ?_
          obtain ⟨q163, hq164, hq12⟩ := some_bind hq12
          refine CW.cutJ (fun L' M' => ∃ l167 : List (List (BitVec 8)), ∃ B165 : List Ent, ∃ cs168 : List Value, ∃ A170 : Option Addr, ∃ c171 : Nat, q163 = Lp.go l167 ∧ (∀ w, Mem w0 w B165 → Mem w0 w (B140 ++ ((ob126, blk ((u8s x123) ++ r128) 5) :: (B125 ++ (B101 ++ []))))) ∧ (Reps (BsRd (More w0 Φ B165)) cs168 l167) ∧ (View (More w0 Φ B165) A170 l167.length c171 1 cs168) ∧ L' = [(1, .slice A1_ a1.length c1_), (8, .slice ((ob126).map fun k => ⟨k, 0, none⟩) x123.length c127), (10, .slice A170 l167.length c171)] ∧ M' = ((B165 ++ N))) ?_ ?_
          · rintro L174 M175 ⟨l167, B165, cs168, A170, c171, e173, hB166, h169, v172, e176, e177⟩
            rw [e176, e177]
            clear e176 e177 L174 M175
            clear hq164
            rw [e173] at hq12
            clear e173
            try dsimp only at hq12
            replace va1 := va1.mono (Ψ := More w0 Φ B165) (fun w q => More.mono (fun w m => hB166 w (m)) q)
            replace v136 := v136.mono (Ψ := More w0 Φ B165) (fun w q => More.mono (fun w m => hB166 w (m)) q)
            have m178 := v172.mx
            refine QW.then_n ?_
            refine CW.seq ?_
            refine CW.region ?_
            refine OW.rv (RV.move rfl) rfl ?_
            obtain ⟨⟨x180, x181⟩, hx179, hq12⟩ := some_bind hq12
            try dsimp only at hq12
            refine OW.callG Try.call29 rfl (rlp_Join_does w0 (More w0 Φ B165) ((B165 ++ N)) (fun w m => More.of hΦ 0 m rfl) A170 c171 cs168 l167 x180 x181 v172 h169 hx179) rfl rfl ?_
            rintro L188 M189 ⟨B182, ob183, c184, r185, o186, b187, e190, e191⟩
            rw [e190, e191]
            clear e190 e191 L188 M189
            refine OW.mem (M' := ((ob183, blk ((u8s x180) ++ r185) 5) :: ((B182 ++ B165) ++ N))) (fun w m => by have h := Mem.sinkAt (A := B182) m 1 0 rfl rfl; exact h) ?_
            replace va1 := va1.mono (Ψ := More w0 Φ (B182 ++ B165)) (fun w q => More.mono (fun w m => (m).appR) q)
            replace v136 := v136.mono (Ψ := More w0 Φ (B182 ++ B165)) (fun w q => More.mono (fun w m => (m).appR) q)
            replace v172 := v172.mono (Ψ := More w0 Φ (B182 ++ B165)) (fun w q => More.mono (fun w m => (m).appR) q)
            replace h169 := h169.mono (BsRd.mono (Ψ := More w0 Φ (B182 ++ B165)) (fun w q => More.mono (fun w m => (m).appR) q))
            have m192 := o186.mx
            refine OW.rv (RV.move rfl) rfl ?_
            refine OW.rv (RV.extract rfl rfl) rfl ?_
            refine OW.slot (sl ob183 0 x180.length c184) (rfl) ?_
            refine OW.rv (RV.extract rfl rfl) rfl ?_
            refine OW.slot (.int .i64 ((x181 : Nat) : Int)) (rfl) ?_
            refine OW.rv (RV.assign rfl) rfl ?_
            refine OW.rv (RV.assign rfl) rfl ?_
            refine OW.nil ?_
            refine QW.then_n ?_
            refine CW.seq ?_
            obtain ⟨q193, hq194, hq12⟩ := some_bind hq12
            refine CW.cutJ (fun L' M' => ∃ p197 : Bool, ∃ B195 : List Ent, q193 = p197 ∧ (∀ w, Mem w0 w B195 → Mem w0 w (B182 ++ B165)) ∧ L' = [(1, .slice A1_ a1.length c1_), (93, .bool (p197))] ∧ M' = ((B195 ++ N))) ?_ ?_
            · rintro L199 M200 ⟨p197, B195, e198, hB196, e201, e202⟩
              rw [e201, e202]
              clear e201 e202 L199 M200
              clear hq194
              rw [e198] at hq12
              clear e198
              try dsimp only at hq12
              replace va1 := va1.mono (Ψ := More w0 Φ B195) (fun w q => More.mono (fun w m => hB196 w (m)) q)
              refine QW.then_n ?_
              by_cases h203 : p197 = true
              · replace hq12 := if_t hq12 h203
                refine CW.is_t rfl (h203) ?_
                refine CW.seq ?_
                refine CW.region ?_
                refine OW.rv (RV.assign rfl) rfl ?_
                refine OW.nil ?_
                refine QW.then_n ?_
                refine CW.ret ?_
                refine QW.then_r ?_
                have hc := Option.some.inj hq12
                subst hc
                try dsimp only at hf
                refine QW.then_r ?_
                have e0 := Option.some.inj hf
                subst e0
                refine QW.retG (rs := [.tmp 4]) ([.bool false]) (B195) rfl ?_ rfl ?_ ?_ _ (.inl rfl)
                · exact ⟨rfl, trivial⟩
                · exact rfl
                · exact (fun w m => m)
              · replace hq12 := if_f hq12 h203
                refine CW.is_f rfl (Bool.eq_false_iff.2 h203) ?_
                refine CW.skip ?_
                exact QW.join ⟨B195, (Option.some.inj hq12).symm, (fun w m => ((((hB166 w ((hB196 w (m)).appR)).appR).tail).appR).appR), rfl, rfl⟩ ⟨rfl, trivial⟩ (fun w m => m.pick [] 0 rfl rfl)
            · skip
              refine CW.region ?_
              refine OW.rv (RV.move rfl) rfl ?_
              refine OW.rv (RV.neq rfl rfl) rfl ?_
              refine OW.slot (.bool (!decide (x181 = 0))) (congrArg (fun b => Value.bool (!b)) (decide_eq_decide.2 (by omega))) ?_
              refine OW.rv (RV.move rfl) rfl ?_
              by_cases h204 : x181 = 0
              · replace hq194 := if_t hq194 h204
                refine OW.slot (.bool false) (congrArg Value.bool (congrArg (fun b => !b) (decide_eq_true h204))) ?_
                refine OW.want rfl ?_
                refine OW.rv (RV.move rfl) rfl ?_
                refine OW.want rfl ?_
                refine OW.rv (RV.move rfl) rfl ?_
                refine OW.want rfl ?_
                refine OW.mem (M' := (((ob183, blk ((u8s x180) ++ r185) 5) :: (B182 ++ B165)) ++ N)) (fun w m => m.pick [0] 1 rfl rfl) ?_
                replace va1 := va1.mono (Ψ := More w0 Φ ((ob183, blk ((u8s x180) ++ r185) 5) :: (B182 ++ B165))) (fun w q => More.mono (fun w m => (m).tail) q)
                replace v136 := v136.mono (Ψ := More w0 Φ ((ob183, blk ((u8s x180) ++ r185) 5) :: (B182 ++ B165))) (fun w q => More.mono (fun w m => (m).tail) q)
                replace v172 := v172.mono (Ψ := More w0 Φ ((ob183, blk ((u8s x180) ++ r185) 5) :: (B182 ++ B165))) (fun w q => More.mono (fun w m => (m).tail) q)
                replace h169 := h169.mono (BsRd.mono (Ψ := More w0 Φ ((ob183, blk ((u8s x180) ++ r185) 5) :: (B182 ++ B165))) (fun w q => More.mono (fun w m => (m).tail) q))
                have v205 : View (More w0 Φ ((ob183, blk ((u8s x180) ++ r185) 5) :: (B182 ++ B165))) ((ob183).map fun k => ⟨k, 0, none⟩) x180.length c184 1 (u8s x180) := o186.view (by decide) (fun w q => q.2.sublist (List.singleton_sublist.2 (List.mem_cons_self ..)))
                obtain ⟨x207, hx206, hq194⟩ := some_bind hq194
                refine OW.callG Try.call26 rfl (waybilllaw07_same_does w0 (More w0 Φ ((ob183, blk ((u8s x180) ++ r185) 5) :: (B182 ++ B165))) ((((ob183, blk ((u8s x180) ++ r185) 5) :: (B182 ++ B165)) ++ N)) (fun w m => More.of hΦ 0 m rfl) ((ob183).map fun k => ⟨k, 0, none⟩) c184 x180 ((ob126).map fun k => ⟨k, 0, none⟩) c127 x123 x207 v205 v136 hx206) rfl rfl ?_
                rintro _ G208 rfl
                refine OW.mem (M' := ((((ob183, blk ((u8s x180) ++ r185) 5) :: (B182 ++ B165)) ++ N))) (fun w m => m.appR) ?_
                refine OW.want rfl ?_
                refine OW.rv (RV.not rfl) rfl ?_
                refine OW.rv (RV.pick_f rfl rfl rfl) rfl ?_
                refine OW.nil ?_
                exact QW.join ⟨(!x207), ((ob183, blk ((u8s x180) ++ r185) 5) :: (B182 ++ B165)), (Option.some.inj hq194).symm, (fun w m => (m).tail), rfl, rfl⟩ ⟨rfl, rfl, trivial⟩ (fun w m => m.pick [] 0 rfl rfl)
              · replace hq194 := if_f hq194 h204
                refine OW.slot (.bool true) (congrArg Value.bool (congrArg (fun b => !b) (decide_eq_false h204))) ?_
                refine OW.skip rfl rfl rfl ?_
                refine OW.skip rfl rfl rfl ?_
                refine OW.skip rfl rfl rfl ?_
                refine OW.skip rfl rfl rfl ?_
                refine OW.rv (RV.pick_t rfl rfl rfl) rfl ?_
                refine OW.nil ?_
                exact QW.join ⟨true, (B182 ++ B165), (Option.some.inj hq194).symm, (fun w m => m), rfl, rfl⟩ ⟨rfl, rfl, trivial⟩ (fun w m => m.pick [] 1 rfl rfl)
          · skip
            refine CW.block ?_
            refine CW.mem (M' := (((ob143, blk (cs141 ++ r145) 22) :: (B140 ++ ((ob126, blk ((u8s x123) ++ r128) 5) :: (B125 ++ (B101 ++ []))))) ++ N)) (fun w m => m.pick [0] 1 rfl rfl) ?_
            replace va0 := va0.mono (Ψ := More w0 Φ ((ob143, blk (cs141 ++ r145) 22) :: (B140 ++ ((ob126, blk ((u8s x123) ++ r128) 5) :: (B125 ++ (B101 ++ [])))))) (fun w q => More.mono (fun w m => (m).tail) q)
            replace ha0 := ha0.mono (ItRd.mono (Ψ := More w0 Φ ((ob143, blk (cs141 ++ r145) 22) :: (B140 ++ ((ob126, blk ((u8s x123) ++ r128) 5) :: (B125 ++ (B101 ++ [])))))) (fun w q => More.mono (fun w m => (m).tail) q))
            replace va1 := va1.mono (Ψ := More w0 Φ ((ob143, blk (cs141 ++ r145) 22) :: (B140 ++ ((ob126, blk ((u8s x123) ++ r128) 5) :: (B125 ++ (B101 ++ [])))))) (fun w q => More.mono (fun w m => (m).tail) q)
            replace v136 := v136.mono (Ψ := More w0 Φ ((ob143, blk (cs141 ++ r145) 22) :: (B140 ++ ((ob126, blk ((u8s x123) ++ r128) 5) :: (B125 ++ (B101 ++ [])))))) (fun w q => More.mono (fun w m => (m).tail) q)
            replace h142 := h142.mono (BsRd.mono (Ψ := More w0 Φ ((ob143, blk (cs141 ++ r145) 22) :: (B140 ++ ((ob126, blk ((u8s x123) ++ r128) 5) :: (B125 ++ (B101 ++ [])))))) (fun w q => More.mono (fun w m => (m).tail) q))
            have v222 : View (More w0 Φ ((ob143, blk (cs141 ++ r145) 22) :: (B140 ++ ((ob126, blk ((u8s x123) ++ r128) 5) :: (B125 ++ (B101 ++ [])))))) ((ob143).map fun k => ⟨k, 0, none⟩) x138.length c144 1 cs141 := o146.view (by decide) (fun w q => q.2.sublist (List.singleton_sublist.2 (List.mem_cons_self ..)))
            refine CW.loopJ (fun k L' M' => ∃ l225 : List (List (BitVec 8)), ∃ n231 : Nat, ∃ B223 : List Ent, ∃ cs226 : List Value, ∃ A228 : Option Addr, ∃ c229 : Nat, (waybilllaw07_RlpParts.l1 a0 k l225 n231) = some q163 ∧ (∀ w, Mem w0 w B223 → Mem w0 w ((ob143, blk (cs141 ++ r145) 22) :: (B140 ++ ((ob126, blk ((u8s x123) ++ r128) 5) :: (B125 ++ (B101 ++ [])))))) ∧ (Reps (BsRd (More w0 Φ B223)) cs226 l225) ∧ (View (More w0 Φ B223) A228 l225.length c229 1 cs226) ∧ (n231 ≤ 9223372036854775807) ∧ L' = [(0, .slice A0_ a0.length c0_), (1, .slice A1_ a1.length c1_), (8, .slice ((ob126).map fun k => ⟨k, 0, none⟩) x123.length c127), (10, .slice A228 l225.length c229), (12, .int .i64 ((n231 : Nat) : Int))] ∧ M' = ((B223 ++ N))) (k0 := (x138.length - 0 + 2)) ⟨x138, 0, ((ob143, blk (cs141 ++ r145) 22) :: (B140 ++ ((ob126, blk ((u8s x123) ++ r128) 5) :: (B125 ++ (B101 ++ []))))), cs141, ((ob143).map fun k => ⟨k, 0, none⟩), c144, hq164, (fun w m => m), h142, v222, (by omega), rfl, rfl⟩ ⟨rfl, rfl, rfl, rfl, rfl, trivial⟩ (fun w m => m.pick [] 0 rfl rfl) ?_
            clear hq164
            rintro k220 L234 M235 ⟨l225, n231, B223, cs226, A228, c229, hl221, hB224, h227, v230, b232, e236, e237⟩
            rw [e236, e237]
            clear e236 e237 L234 M235
            rcases k220 with _ | k220
            · rw [waybilllaw07_RlpParts.l1] at hl221; cases hl221
            rw [waybilllaw07_RlpParts.l1] at hl221
            replace va0 := va0.mono (Ψ := More w0 Φ B223) (fun w q => More.mono (fun w m => hB224 w (m)) q)
            replace ha0 := ha0.mono (ItRd.mono (Ψ := More w0 Φ B223) (fun w q => More.mono (fun w m => hB224 w (m)) q))
            replace va1 := va1.mono (Ψ := More w0 Φ B223) (fun w q => More.mono (fun w m => hB224 w (m)) q)
            replace v136 := v136.mono (Ψ := More w0 Φ B223) (fun w q => More.mono (fun w m => hB224 w (m)) q)
            have m238 := v230.mx
            refine CW.seq ?_
            refine CW.seq ?_
            refine CW.region ?_
            refine OW.rv (RV.move rfl) rfl ?_
            refine OW.rv (RV.move rfl) rfl ?_
            refine OW.rv (RV.len rfl rfl) rfl ?_
            refine OW.rv (RV.lss rfl rfl) rfl ?_
            refine OW.slot (.bool (decide (n231 < l225.length))) (congrArg Value.bool (decide_eq_decide.2 (by omega))) ?_
            refine OW.nil ?_
            refine QW.then_n ?_
            by_cases h239 : n231 < l225.length
            · replace hl221 := if_t hl221 h239
              refine CW.is_t rfl (decide_eq_true h239) ?_
              refine CW.skip ?_
              refine QW.then_n ?_
              refine CW.seq ?_
              refine CW.block ?_
              refine CW.seq ?_
              refine CW.region ?_
              refine OW.rv (RV.move rfl) rfl ?_
              refine OW.rv (RV.move rfl) rfl ?_
              obtain ⟨x240, hx241, hl221⟩ := some_bind hl221
              have hl242 := lt_of_at hx241
              refine OW.rv (RV.idx_rs (n231) rfl rfl rfl rfl rfl (va0.isSome (by decide) hl242) (by omega)) rfl ?_
              obtain ⟨cs243, h244, h245⟩ := ha0.get ItRd.len hx241
              have h255 := h244
              obtain ⟨A246, c247, A249, c250, cs252, e254, v248, v251, h253⟩ := ItRd.opn h244
              subst e254
              have m256 := v248.mx
              have m257 := v251.mx
              refine OW.rv (RV.loadAs rfl rfl rfl rfl (fun w m => va0.load (More.of hΦ 0 m rfl) h245) rfl) rfl ?_
              obtain ⟨x259, hx258, hl221⟩ := some_bind hl221
              refine OW.callG Try.call57 rfl (waybilllaw07_twin_does w0 (More w0 Φ B223) ((B223 ++ N)) (fun w m => More.of hΦ 0 m rfl) [.bool (x240.list), .slice A246 x240.data.length c247, .slice A249 x240.items.length c250] x240 x259 h255 hx258) rfl rfl ?_
              rintro L263 M264 ⟨B260, cs261, h262, e265, e266⟩
              rw [e265, e266]
              clear e265 e266 L263 M264
              refine OW.mem (M' := (((B260 ++ B223) ++ N))) (fun w m => by have h := Mem.sinkAt (A := B260) m 0 0 rfl rfl; exact h) ?_
              replace va0 := va0.mono (Ψ := More w0 Φ (B260 ++ B223)) (fun w q => More.mono (fun w m => (m).appR) q)
              replace ha0 := ha0.mono (ItRd.mono (Ψ := More w0 Φ (B260 ++ B223)) (fun w q => More.mono (fun w m => (m).appR) q))
              replace va1 := va1.mono (Ψ := More w0 Φ (B260 ++ B223)) (fun w q => More.mono (fun w m => (m).appR) q)
              replace v136 := v136.mono (Ψ := More w0 Φ (B260 ++ B223)) (fun w q => More.mono (fun w m => (m).appR) q)
              replace v230 := v230.mono (Ψ := More w0 Φ (B260 ++ B223)) (fun w q => More.mono (fun w m => (m).appR) q)
              replace h227 := h227.mono (BsRd.mono (Ψ := More w0 Φ (B260 ++ B223)) (fun w q => More.mono (fun w m => (m).appR) q))
              replace h255 := ItRd.mono (Ψ := More w0 Φ (B260 ++ B223)) (fun w q => More.mono (fun w m => (m).appR) q) _ _ h255
              replace v248 := v248.mono (Ψ := More w0 Φ (B260 ++ B223)) (fun w q => More.mono (fun w m => (m).appR) q)
              replace v251 := v251.mono (Ψ := More w0 Φ (B260 ++ B223)) (fun w q => More.mono (fun w m => (m).appR) q)
              replace h253 := h253.mono (ItRd.mono (Ψ := More w0 Φ (B260 ++ B223)) (fun w q => More.mono (fun w m => (m).appR) q))
              replace h262 := ItRd.mono (Ψ := (More w0 Φ (B260 ++ B223))) (fun w q => More.flat q) _ _ h262
              have h276 := h262
              obtain ⟨A267, c268, A270, c271, cs273, e275, v269, v272, h274⟩ := ItRd.opn h262
              subst e275
              have m277 := v269.mx
              have m278 := v272.mx
              have m279 := v269.mx
              have m280 := v272.mx
              obtain ⟨⟨x282, x283⟩, hx281, hl221⟩ := some_bind hl221
              try dsimp only at hl221
              refine OW.callG Try.call53 rfl (rlp_Encode_does w0 (More w0 Φ (B260 ++ B223)) (((B260 ++ B223) ++ N)) (fun w m => More.of hΦ 0 m rfl) [.bool (x259.list), .slice A267 x259.data.length c268, .slice A270 x259.items.length c271] x259 x282 x283 h276 hx281) rfl rfl ?_
              rintro L290 M291 ⟨B284, ob285, c286, r287, o288, b289, e292, e293⟩
              rw [e292, e293]
              clear e292 e293 L290 M291
              refine OW.mem (M' := ((ob285, blk ((u8s x282) ++ r287) 5) :: ((B284 ++ (B260 ++ B223)) ++ N))) (fun w m => by have h := Mem.sinkAt (A := B284) m 1 0 rfl rfl; exact h) ?_
              replace va0 := va0.mono (Ψ := More w0 Φ (B284 ++ (B260 ++ B223))) (fun w q => More.mono (fun w m => (m).appR) q)
              replace ha0 := ha0.mono (ItRd.mono (Ψ := More w0 Φ (B284 ++ (B260 ++ B223))) (fun w q => More.mono (fun w m => (m).appR) q))
              replace va1 := va1.mono (Ψ := More w0 Φ (B284 ++ (B260 ++ B223))) (fun w q => More.mono (fun w m => (m).appR) q)
              replace v136 := v136.mono (Ψ := More w0 Φ (B284 ++ (B260 ++ B223))) (fun w q => More.mono (fun w m => (m).appR) q)
              replace v230 := v230.mono (Ψ := More w0 Φ (B284 ++ (B260 ++ B223))) (fun w q => More.mono (fun w m => (m).appR) q)
              replace h227 := h227.mono (BsRd.mono (Ψ := More w0 Φ (B284 ++ (B260 ++ B223))) (fun w q => More.mono (fun w m => (m).appR) q))
              replace h255 := ItRd.mono (Ψ := More w0 Φ (B284 ++ (B260 ++ B223))) (fun w q => More.mono (fun w m => (m).appR) q) _ _ h255
              replace v248 := v248.mono (Ψ := More w0 Φ (B284 ++ (B260 ++ B223))) (fun w q => More.mono (fun w m => (m).appR) q)
              replace v251 := v251.mono (Ψ := More w0 Φ (B284 ++ (B260 ++ B223))) (fun w q => More.mono (fun w m => (m).appR) q)
              replace h253 := h253.mono (ItRd.mono (Ψ := More w0 Φ (B284 ++ (B260 ++ B223))) (fun w q => More.mono (fun w m => (m).appR) q))
              replace h276 := ItRd.mono (Ψ := More w0 Φ (B284 ++ (B260 ++ B223))) (fun w q => More.mono (fun w m => (m).appR) q) _ _ h276
              replace v269 := v269.mono (Ψ := More w0 Φ (B284 ++ (B260 ++ B223))) (fun w q => More.mono (fun w m => (m).appR) q)
              replace v272 := v272.mono (Ψ := More w0 Φ (B284 ++ (B260 ++ B223))) (fun w q => More.mono (fun w m => (m).appR) q)
              replace h274 := h274.mono (ItRd.mono (Ψ := More w0 Φ (B284 ++ (B260 ++ B223))) (fun w q => More.mono (fun w m => (m).appR) q))
              have m294 := o288.mx
              refine OW.rv (RV.move rfl) rfl ?_
              refine OW.rv (RV.extract rfl rfl) rfl ?_
              refine OW.slot (sl ob285 0 x282.length c286) (rfl) ?_
              refine OW.rv (RV.extract rfl rfl) rfl ?_
              refine OW.slot (.int .i64 ((x283 : Nat) : Int)) (rfl) ?_
              refine OW.rv (RV.assign rfl) rfl ?_
              refine OW.rv (RV.assign rfl) rfl ?_
              refine OW.nil ?_
              refine QW.then_n ?_
              refine CW.seq ?_
              obtain ⟨q295, hq296, hl221⟩ := some_bind hl221
              refine CW.cutJ (fun L' M' => ∃ l299 : List (List (BitVec 8)), ∃ p305 : Bool, ∃ B297 : List Ent, ∃ cs300 : List Value, ∃ A302 : Option Addr, ∃ c303 : Nat, q295 = (l299, p305) ∧ (∀ w, Mem w0 w B297 → Mem w0 w (B284 ++ (B260 ++ B223))) ∧ (Reps (BsRd (More w0 Φ B297)) cs300 l299) ∧ (View (More w0 Φ B297) A302 l299.length c303 1 cs300) ∧ L' = [(0, .slice A0_ a0.length c0_), (1, .slice A1_ a1.length c1_), (8, .slice ((ob126).map fun k => ⟨k, 0, none⟩) x123.length c127), (10, .slice A302 l299.length c303), (12, .int .i64 ((n231 : Nat) : Int)), (80, .bool (p305))] ∧ M' = ((B297 ++ N))) ?_ ?_
              · rintro L307 M308 ⟨l299, p305, B297, cs300, A302, c303, e306, hB298, h301, v304, e309, e310⟩
                rw [e309, e310]
                clear e309 e310 L307 M308
                clear hq296
                rw [e306] at hl221
                clear e306
                try dsimp only at hl221
                replace va0 := va0.mono (Ψ := More w0 Φ B297) (fun w q => More.mono (fun w m => hB298 w (m)) q)
                replace ha0 := ha0.mono (ItRd.mono (Ψ := More w0 Φ B297) (fun w q => More.mono (fun w m => hB298 w (m)) q))
                replace va1 := va1.mono (Ψ := More w0 Φ B297) (fun w q => More.mono (fun w m => hB298 w (m)) q)
                replace v136 := v136.mono (Ψ := More w0 Φ B297) (fun w q => More.mono (fun w m => hB298 w (m)) q)
                have m311 := v304.mx
                refine QW.then_n ?_
                by_cases h312 : p305 = true
                · replace hl221 := if_t hl221 h312
                  refine CW.is_t rfl (h312) ?_
                  refine CW.seq ?_
                  refine CW.region ?_
                  refine OW.rv (RV.assign rfl) rfl ?_
                  refine OW.nil ?_
                  refine QW.then_n ?_
                  refine CW.ret ?_
                  refine QW.block_r ?_
                  refine QW.then_r ?_
                  refine QW.then_r ?_
                  refine QW.block_r ?_
                  refine QW.then_r ?_
                  have hc := Option.some.inj hl221
                  subst hc
                  try dsimp only at hq12
                  refine QW.then_r ?_
                  refine QW.then_r ?_
                  have hc := Option.some.inj hq12
                  subst hc
                  try dsimp only at hf
                  refine QW.then_r ?_
                  have e0 := Option.some.inj hf
                  subst e0
                  refine QW.retG (rs := [.tmp 4]) ([.bool false]) (B297) rfl ?_ rfl ?_ ?_ _ (.inl rfl)
                  · exact ⟨rfl, trivial⟩
                  · exact rfl
                  · exact (fun w m => m)
                · replace hl221 := if_f hl221 h312
                  refine CW.is_f rfl (Bool.eq_false_iff.2 h312) ?_
                  refine CW.skip ?_
                  refine QW.block_n ?_
                  refine QW.then_n ?_
                  refine CW.region ?_
                  refine OW.rv (RV.move rfl) rfl ?_
                  refine OW.rv (RV.add rfl rfl (by omega)) rfl ?_
                  refine OW.slot (.int .i64 (((n231 + 1) : Nat) : Int)) (by first | rfl | (congr 1) | (congr 1; omega)) ?_
                  refine OW.rv (RV.assign rfl) rfl ?_
                  refine OW.nil ?_
                  exact QW.againJ (k' := k220) (Nat.lt_succ_self _) ⟨l299, (n231 + 1), B297, cs300, A302, c303, hl221, (fun w m => hB224 w (((hB298 w (m)).appR).appR)), h301, v304, (by omega), rfl, rfl⟩ ⟨rfl, rfl, rfl, rfl, rfl, trivial⟩ (fun w m => m.pick [] 0 rfl rfl)
              · skip
                refine CW.region ?_
                refine OW.rv (RV.move rfl) rfl ?_
                refine OW.rv (RV.neq rfl rfl) rfl ?_
                refine OW.slot (.bool (!decide (x283 = 0))) (congrArg (fun b => Value.bool (!b)) (decide_eq_decide.2 (by omega))) ?_
                refine OW.rv (RV.move rfl) rfl ?_
                by_cases h313 : x283 = 0
                · replace hq296 := if_t hq296 h313
                  refine OW.slot (.bool false) (congrArg Value.bool (congrArg (fun b => !b) (decide_eq_true h313))) ?_
                  refine OW.want rfl ?_
                  refine OW.rv (RV.move rfl) rfl ?_
                  refine OW.want rfl ?_
                  refine OW.rv (RV.move rfl) rfl ?_
                  refine OW.want rfl ?_
                  obtain ⟨x314, hx315, hq296⟩ := some_bind hq296
                  have hl316 := lt_of_at hx315
                  refine OW.rv (RV.idx_r (n231) rfl rfl rfl rfl rfl (v230.isSome (by decide) hl316) (by omega)) rfl ?_
                  obtain ⟨cs317, h318, h319⟩ := h227.get BsRd.len hx315
                  obtain ⟨A320, c321, e323, v322⟩ := h318
                  subst e323
                  have m324 := v322.mx
                  refine OW.want rfl ?_
                  refine OW.rv (RV.load_at rfl rfl rfl (fun w m => by have := v230.load (More.of hΦ 1 m rfl) h319 0 _ rfl; simpa [Addr.add] using this)) rfl ?_
                  refine OW.want rfl ?_
                  refine OW.rv (RV.move rfl) rfl ?_
                  refine OW.want rfl ?_
                  refine OW.mem (M' := (((ob285, blk ((u8s x282) ++ r287) 5) :: (B284 ++ (B260 ++ B223))) ++ N)) (fun w m => m.pick [0] 1 rfl rfl) ?_
                  replace va0 := va0.mono (Ψ := More w0 Φ ((ob285, blk ((u8s x282) ++ r287) 5) :: (B284 ++ (B260 ++ B223)))) (fun w q => More.mono (fun w m => (m).tail) q)
                  replace ha0 := ha0.mono (ItRd.mono (Ψ := More w0 Φ ((ob285, blk ((u8s x282) ++ r287) 5) :: (B284 ++ (B260 ++ B223)))) (fun w q => More.mono (fun w m => (m).tail) q))
                  replace va1 := va1.mono (Ψ := More w0 Φ ((ob285, blk ((u8s x282) ++ r287) 5) :: (B284 ++ (B260 ++ B223)))) (fun w q => More.mono (fun w m => (m).tail) q)
                  replace v136 := v136.mono (Ψ := More w0 Φ ((ob285, blk ((u8s x282) ++ r287) 5) :: (B284 ++ (B260 ++ B223)))) (fun w q => More.mono (fun w m => (m).tail) q)
                  replace v230 := v230.mono (Ψ := More w0 Φ ((ob285, blk ((u8s x282) ++ r287) 5) :: (B284 ++ (B260 ++ B223)))) (fun w q => More.mono (fun w m => (m).tail) q)
                  replace h227 := h227.mono (BsRd.mono (Ψ := More w0 Φ ((ob285, blk ((u8s x282) ++ r287) 5) :: (B284 ++ (B260 ++ B223)))) (fun w q => More.mono (fun w m => (m).tail) q))
                  replace h255 := ItRd.mono (Ψ := More w0 Φ ((ob285, blk ((u8s x282) ++ r287) 5) :: (B284 ++ (B260 ++ B223)))) (fun w q => More.mono (fun w m => (m).tail) q) _ _ h255
                  replace v248 := v248.mono (Ψ := More w0 Φ ((ob285, blk ((u8s x282) ++ r287) 5) :: (B284 ++ (B260 ++ B223)))) (fun w q => More.mono (fun w m => (m).tail) q)
                  replace v251 := v251.mono (Ψ := More w0 Φ ((ob285, blk ((u8s x282) ++ r287) 5) :: (B284 ++ (B260 ++ B223)))) (fun w q => More.mono (fun w m => (m).tail) q)
                  replace h253 := h253.mono (ItRd.mono (Ψ := More w0 Φ ((ob285, blk ((u8s x282) ++ r287) 5) :: (B284 ++ (B260 ++ B223)))) (fun w q => More.mono (fun w m => (m).tail) q))
                  replace h276 := ItRd.mono (Ψ := More w0 Φ ((ob285, blk ((u8s x282) ++ r287) 5) :: (B284 ++ (B260 ++ B223)))) (fun w q => More.mono (fun w m => (m).tail) q) _ _ h276
                  replace v269 := v269.mono (Ψ := More w0 Φ ((ob285, blk ((u8s x282) ++ r287) 5) :: (B284 ++ (B260 ++ B223)))) (fun w q => More.mono (fun w m => (m).tail) q)
                  replace v272 := v272.mono (Ψ := More w0 Φ ((ob285, blk ((u8s x282) ++ r287) 5) :: (B284 ++ (B260 ++ B223)))) (fun w q => More.mono (fun w m => (m).tail) q)
                  replace h274 := h274.mono (ItRd.mono (Ψ := More w0 Φ ((ob285, blk ((u8s x282) ++ r287) 5) :: (B284 ++ (B260 ++ B223)))) (fun w q => More.mono (fun w m => (m).tail) q))
                  replace v322 := v322.mono (Ψ := More w0 Φ ((ob285, blk ((u8s x282) ++ r287) 5) :: (B284 ++ (B260 ++ B223)))) (fun w q => More.mono (fun w m => (m).tail) q)
                  have v325 : View (More w0 Φ ((ob285, blk ((u8s x282) ++ r287) 5) :: (B284 ++ (B260 ++ B223)))) ((ob285).map fun k => ⟨k, 0, none⟩) x282.length c286 1 (u8s x282) := o288.view (by decide) (fun w q => q.2.sublist (List.singleton_sublist.2 (List.mem_cons_self ..)))
                  obtain ⟨x327, hx326, hq296⟩ := some_bind hq296
                  refine OW.callG Try.call26 rfl (waybilllaw07_same_does w0 (More w0 Φ ((ob285, blk ((u8s x282) ++ r287) 5) :: (B284 ++ (B260 ++ B223)))) ((((ob285, blk ((u8s x282) ++ r287) 5) :: (B284 ++ (B260 ++ B223))) ++ N)) (fun w m => More.of hΦ 0 m rfl) A320 c321 x314 ((ob285).map fun k => ⟨k, 0, none⟩) c286 x282 x327 v322 v325 hx326) rfl rfl ?_
                  rintro _ G328 rfl
                  refine OW.mem (M' := ((((ob285, blk ((u8s x282) ++ r287) 5) :: (B284 ++ (B260 ++ B223))) ++ N))) (fun w m => m.appR) ?_
                  refine OW.want rfl ?_
                  refine OW.rv (RV.not rfl) rfl ?_
                  refine OW.rv (RV.pick_f rfl rfl rfl) rfl ?_
                  refine OW.nil ?_
                  exact QW.join ⟨l225, (!x327), ((ob285, blk ((u8s x282) ++ r287) 5) :: (B284 ++ (B260 ++ B223))), cs226, A228, c229, (Option.some.inj hq296).symm, (fun w m => (m).tail), h227, v230, rfl, rfl⟩ ⟨rfl, rfl, rfl, rfl, rfl, rfl, trivial⟩ (fun w m => m.pick [] 0 rfl rfl)
                · replace hq296 := if_f hq296 h313
                  refine OW.slot (.bool true) (congrArg Value.bool (congrArg (fun b => !b) (decide_eq_false h313))) ?_
                  refine OW.skip rfl rfl rfl ?_
                  refine OW.skip rfl rfl rfl ?_
                  refine OW.skip rfl rfl rfl ?_
                  refine OW.skip rfl rfl rfl ?_
                  refine OW.skip rfl rfl rfl ?_
                  refine OW.skip rfl rfl rfl ?_
                  refine OW.skip rfl rfl rfl ?_
                  refine OW.rv (RV.pick_t rfl rfl rfl) rfl ?_
                  refine OW.nil ?_
                  exact QW.join ⟨l225, true, (B284 ++ (B260 ++ B223)), cs226, A228, c229, (Option.some.inj hq296).symm, (fun w m => m), h227, v230, rfl, rfl⟩ ⟨rfl, rfl, rfl, rfl, rfl, rfl, trivial⟩ (fun w m => m.pick [] 1 rfl rfl)
            · replace hl221 := if_f hl221 h239
              refine CW.is_f rfl (decide_eq_false h239) ?_
              refine CW.exit ?_
              refine QW.then_x ?_
              refine QW.then_x ?_
              refine QW.block_xe ?_
              exact QW.join ⟨l225, B223, cs226, A228, c229, (Option.some.inj hl221).symm, (fun w m => (hB224 w (m)).tail), h227, v230, rfl, rfl⟩ ⟨rfl, rfl, rfl, trivial⟩ (fun w m => m.pick [] 0 rfl rfl)
      · skip
        refine CW.region ?_
        refine OW.rv (RV.move rfl) rfl ?_
        refine OW.rv (RV.neq rfl rfl) rfl ?_
        refine OW.slot (.bool (!decide (x124 = 0))) (congrArg (fun b => Value.bool (!b)) (decide_eq_decide.2 (by omega))) ?_
        refine OW.rv (RV.move rfl) rfl ?_
        by_cases h330 : x124 = 0
        · replace hq154 := if_t hq154 h330
          refine OW.slot (.bool false) (congrArg Value.bool (congrArg (fun b => !b) (decide_eq_true h330))) ?_
          refine OW.want rfl ?_
          refine OW.rv (RV.move rfl) rfl ?_
          refine OW.want rfl ?_
          refine OW.rv (RV.neq rfl rfl) rfl ?_
          refine OW.slot (.bool (!decide (x139 = 0))) (congrArg (fun b => Value.bool (!b)) (decide_eq_decide.2 (by omega))) ?_
          refine OW.rv (RV.pick_f rfl rfl rfl) rfl ?_
          refine OW.rv (RV.move rfl) rfl ?_
          by_cases h331 : x139 = 0
          · replace hq154 := if_t hq154 h331
            refine OW.slot (.bool false) (congrArg Value.bool (congrArg (fun b => !b) (decide_eq_true h331))) ?_
            refine OW.want rfl ?_
            refine OW.rv (RV.move rfl) rfl ?_
            refine OW.want rfl ?_
            refine OW.rv (RV.len rfl rfl) rfl ?_
            refine OW.want rfl ?_
            refine OW.rv (RV.move rfl) rfl ?_
            refine OW.want rfl ?_
            refine OW.rv (RV.len rfl rfl) rfl ?_
            refine OW.want rfl ?_
            refine OW.rv (RV.neq rfl rfl) rfl ?_
            refine OW.slot (.bool (!decide (x138.length = a0.length))) (congrArg (fun b => Value.bool (!b)) (decide_eq_decide.2 (by omega))) ?_
            refine OW.rv (RV.pick_f rfl rfl rfl) rfl ?_
            refine OW.nil ?_
            exact QW.join ⟨(!decide (x138.length = a0.length)), (Option.some.inj hq154).symm, rfl, rfl⟩ ⟨rfl, rfl, rfl, rfl, rfl, trivial⟩ (fun w m => m.pick [0] 2 rfl rfl)
          · replace hq154 := if_f hq154 h331
            refine OW.slot (.bool true) (congrArg Value.bool (congrArg (fun b => !b) (decide_eq_false h331))) ?_
            refine OW.skip rfl rfl rfl ?_
            refine OW.skip rfl rfl rfl ?_
            refine OW.skip rfl rfl rfl ?_
            refine OW.skip rfl rfl rfl ?_
            refine OW.skip rfl rfl rfl ?_
            refine OW.rv (RV.pick_t rfl rfl rfl) rfl ?_
            refine OW.nil ?_
            exact QW.join ⟨true, (Option.some.inj hq154).symm, rfl, rfl⟩ ⟨rfl, rfl, rfl, rfl, rfl, trivial⟩ (fun w m => m.pick [0] 2 rfl rfl)
        · replace hq154 := if_f hq154 h330
          refine OW.slot (.bool true) (congrArg Value.bool (congrArg (fun b => !b) (decide_eq_false h330))) ?_
          refine OW.skip rfl rfl rfl ?_
          refine OW.skip rfl rfl rfl ?_
          refine OW.rv (RV.pick_t rfl rfl rfl) rfl ?_
          refine OW.rv (RV.move rfl) rfl ?_
          refine OW.skip rfl rfl rfl ?_
          refine OW.skip rfl rfl rfl ?_
          refine OW.skip rfl rfl rfl ?_
          refine OW.skip rfl rfl rfl ?_
          refine OW.skip rfl rfl rfl ?_
          refine OW.rv (RV.pick_t rfl rfl rfl) rfl ?_
          refine OW.nil ?_
          exact QW.join ⟨true, (Option.some.inj hq154).symm, rfl, rfl⟩ ⟨rfl, rfl, rfl, rfl, rfl, trivial⟩ (fun w m => m.pick [0] 2 rfl rfl)
    · replace hq12 := if_f hq12 h97
      refine CW.is_f rfl (Bool.eq_false_iff.2 h97) ?_
      refine CW.skip ?_
      exact QW.join ⟨[], (Option.some.inj hq12).symm, (fun w m => m), rfl, rfl⟩ ⟨rfl, trivial⟩ (fun w m => m.pick [] 1 rfl rfl)
end Go.Fw.Try
