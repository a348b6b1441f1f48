/- Part of a proof: rules that its law uses. -/
import Derived.Test.YtojnakdlnlcmiaaDoorT2
set_option linter.unusedVariables false
set_option linter.unusedSimpArgs false
set_option linter.unusedSectionVars false
set_option maxRecDepth 100000
set_option maxHeartbeats 1000000
namespace Go.Fw.Tryd
open Go Go.Proofs Go.Fw
theorem receipt_among_Address_does (w0 : World) (Φ : Ctx) (N : List Ent) (hΦ : ∀ w, Mem w0 w N → Φ w) (A0_ : Option Addr) (c0_ : Nat) (cs0_ : List Value) (a0 : List (Vector (BitVec 8) 20)) (a1 : Vector (BitVec 8) 20) (res0 : Bool) (va0 : View Φ A0_ a0.length c0_ 20 cs0_) (ha0 : Reps (Ar8Rd Φ) cs0_ a0) (hf : receipt_among_Address a0 a1 = some res0) : DoesG Tryd.prog 47 [.slice A0_ a0.length c0_, .agg (u8s a1.toList).toArray] w0 [] N (fun v G => v = .bool res0) := by
 unfold receipt_among_Address at hf
 replace va0 := va0.mono (Ψ := More w0 Φ []) (fun w q => q.1)
 replace ha0 := ha0.mono (Ar8Rd.mono (Ψ := More w0 Φ []) (fun w q => q.1))
 have m1 := va0.mx
 refine DoesG.enter Tryd.func47 rfl Tryd.ntmps47 rfl (M := (([] ++ N))) rfl (Z4 (Z2 (OW.boxA rfl rfl (fun b2 => (Z0 (Z5 rfl) rfl (Z6 (Z1 (Z4 (Z4 (Z2 (Z0 (Z3 rfl) rfl (Z0 (RV.len rfl rfl) rfl (Z0 (Z3 rfl) rfl ?_)))))))))))))
 refine Z6 (Z1 ?_)
 obtain ⟨q3, hq4, hf⟩ := Z101 hf
 refine Z116 (fun L' M' => q3 = Lp.go () ∧ L' = [] ∧ M' = (([] ++ N))) ?_ ?_
 ·rintro L6 M7 ⟨e5, e8, e9⟩
  rw [e8, e9]
  clear e8 e9 L6 M7
  clear hq4
  rw [e5] at hf
  clear e5
  try dsimp only at hf
  refine Z1 (Z4 (Z2 (Z0 (Z5 rfl) rfl (Z6 (Z1 (CW.ret ?_))))))
  have e0 := Zi hf
  subst e0
  refine Z111 (rs := [.tmp 4]) ([.bool false]) ([]) rfl ?_ rfl ?_ ?_ _ (.inl rfl)
  ·exact ⟨rfl, trivial⟩
  ·exact rfl
  ·exact (fun w m => m)
 ·skip
  refine CW.block (Z114 (fun k L' M' => ∃ n10 : Nat, (receipt_among_Address.l1 a0 a1 k n10) = some q3 ∧ (n10 ≤ 9223372036854775807) ∧ L' = [(3, ptr (some b2) 0), (7, .slice A0_ a0.length c0_), (8, .int .i64 ((a0.length : Nat) : Int)), (9, .int .i64 ((n10 : Nat) : Int))] ∧ M' = ((some b2, blk (u8s a1.toList) 60) :: ([] ++ N))) (k0 := (a0.length - 0 + 2)) ⟨0, hq4, (by omega), rfl, rfl⟩ ⟨rfl, rfl, rfl, rfl, trivial⟩ (fun w m => m.pick [0] 1 rfl rfl) ?_)
  clear hq4
  rintro k12 L15 M16 ⟨n10, hl13, b11, e17, e18⟩
  rw [e17, e18]
  clear e17 e18 L15 M16
  rcases k12 with _ | k12
  ·rw [receipt_among_Address.l1] at hl13; cases hl13
  rw [receipt_among_Address.l1] at hl13
  refine Z4 (Z2 (Z0 (RV.lss rfl rfl) rfl (Z7 (.bool (decide (n10 < a0.length))) (congrArg Value.bool (decide_eq_decide.2 (by omega))) (Z6 (Z1 (Z4 ?_))))))
  by_cases h19 : n10 < a0.length
  ·replace hl13 := if_t hl13 h19
   refine Z13 rfl (decide_eq_true h19) (CW.skip (Z1 (Z4 (CW.block (Z4 (Z2 ?_))))))
   obtain ⟨x20, hx21, hl13⟩ := Z101 hl13
   have hl22 := Z110 hx21
   refine Z0 (Z103 (n10) rfl rfl rfl rfl rfl (va0.isSome (by decide) hl22) (by omega)) rfl ?_
   obtain ⟨cs23, h24, h25⟩ := ha0.get Ar8Rd.len hx21
   have h24a := h24
   subst h24a
   refine Z0 (Z104 rfl rfl rfl rfl (fun w m => va0.load (Z113 hΦ 1 m rfl) h25) ((Z100 _).trans Zv)) rfl (OW.alloc (l := (u8s (Vector.replicate 20 0#8).toList)) rfl (by rw [Vector.toList_replicate, ← u8s_rep']; rfl) rfl (fun b26 => (Z28 (SV.storeW rfl rfl rfl (u8s_one _) rfl ((Z100 _).trans Zv) ((Z100 _).trans Zv)) (Z6 (Z1 (Z4 (Z2 (Z0 (Z22 rfl (List.Mem.tail _ Zh) rfl rfl rfl rfl ((Z100 _).trans Zv)) rfl (Z0 (Z22 rfl Zh rfl rfl rfl rfl ((Z100 _).trans Zv)) rfl (Z0 (RV.eqA8 rfl rfl rfl rfl rfl rfl (Zv) (Zv)) rfl (Z7 (.bool (decide (a1 = x20))) (congrArg Value.bool (decide_eq_decide.2 Vector.toList_inj)) ?_)))))))))))
   refine Z6 (Z1 ?_)
   by_cases h27 : a1 = x20
   ·replace hl13 := if_t hl13 h27
    refine Z13 rfl (decide_eq_true h27) (Z4 (Z2 (Z0 (Z5 rfl) rfl (Z6 (Z1 (CW.ret (Z16 (Z8 (Z8 (Z16 (Z8 ?_)))))))))))
    have hc := Zi hl13
    subst hc
    try dsimp only at hf
    refine Z8 ?_
    have e0 := Zi hf
    subst e0
    refine Z111 (rs := [.tmp 4]) ([.bool true]) ((some b26, blk (u8s x20.toList) 60) :: (some b2, blk (u8s a1.toList) 60) :: []) rfl ?_ rfl ?_ ?_ _ (.inl rfl)
    ·exact ⟨rfl, trivial⟩
    ·exact rfl
    ·exact (fun w m => m)
   ·replace hl13 := if_f hl13 h27
    refine Z14 rfl (decide_eq_false h27) (CW.skip (Z27 (Z1 (Z2 (Z0 (RV.add rfl rfl (by omega)) rfl (Z7 (.int .i64 (((n10 + 1) : Nat) : Int)) (by first | rfl | (congr 1) | (congr 1; omega)) (Z0 (Z3 rfl) rfl (Z6 ?_))))))))
    exact Z106 (k' := k12) (Nat.lt_succ_self _) ⟨(n10 + 1), hl13, (by omega), rfl, rfl⟩ ⟨rfl, rfl, rfl, rfl, trivial⟩ (fun w m => m.pick [1] 2 rfl rfl)
  ·replace hl13 := if_f hl13 h19
   refine Z14 rfl (decide_eq_false h19) (CW.exit (Z9 (Z9 (Z15 ?_))))
   exact QW.join ⟨(Zi hl13).symm, rfl, rfl⟩ trivial (fun w m => m.pick [] 1 rfl rfl)
theorem receipt_among_Hash_does (w0 : World) (Φ : Ctx) (N : List Ent) (hΦ : ∀ w, Mem w0 w N → Φ w) (A0_ : Option Addr) (c0_ : Nat) (cs0_ : List Value) (a0 : List (Vector (BitVec 8) 32)) (a1 : Vector (BitVec 8) 32) (res0 : Bool) (va0 : View Φ A0_ a0.length c0_ 32 cs0_) (ha0 : Reps (Ar8Rd Φ) cs0_ a0) (hf : receipt_among_Hash a0 a1 = some res0) : DoesG Tryd.prog 48 [.slice A0_ a0.length c0_, .agg (u8s a1.toList).toArray] w0 [] N (fun v G => v = .bool res0) := by
 unfold receipt_among_Hash at hf
 replace va0 := va0.mono (Ψ := More w0 Φ []) (fun w q => q.1)
 replace ha0 := ha0.mono (Ar8Rd.mono (Ψ := More w0 Φ []) (fun w q => q.1))
 have m1 := va0.mx
 refine DoesG.enter Tryd.func48 rfl Tryd.ntmps48 rfl (M := (([] ++ N))) rfl (Z4 (Z2 (OW.boxA rfl rfl (fun b2 => (Z0 (Z5 rfl) rfl (Z6 (Z1 (Z4 (Z4 (Z2 (Z0 (Z3 rfl) rfl (Z0 (RV.len rfl rfl) rfl (Z0 (Z3 rfl) rfl ?_)))))))))))))
 refine Z6 (Z1 ?_)
 obtain ⟨q3, hq4, hf⟩ := Z101 hf
 refine Z116 (fun L' M' => q3 = Lp.go () ∧ L' = [] ∧ M' = (([] ++ N))) ?_ ?_
 ·rintro L6 M7 ⟨e5, e8, e9⟩
  rw [e8, e9]
  clear e8 e9 L6 M7
  clear hq4
  rw [e5] at hf
  clear e5
  try dsimp only at hf
  refine Z1 (Z4 (Z2 (Z0 (Z5 rfl) rfl (Z6 (Z1 (CW.ret ?_))))))
  have e0 := Zi hf
  subst e0
  refine Z111 (rs := [.tmp 4]) ([.bool false]) ([]) rfl ?_ rfl ?_ ?_ _ (.inl rfl)
  ·exact ⟨rfl, trivial⟩
  ·exact rfl
  ·exact (fun w m => m)
 ·skip
  refine CW.block (Z114 (fun k L' M' => ∃ n10 : Nat, (receipt_among_Hash.l1 a0 a1 k n10) = some q3 ∧ (n10 ≤ 9223372036854775807) ∧ L' = [(3, ptr (some b2) 0), (7, .slice A0_ a0.length c0_), (8, .int .i64 ((a0.length : Nat) : Int)), (9, .int .i64 ((n10 : Nat) : Int))] ∧ M' = ((some b2, blk (u8s a1.toList) 24) :: ([] ++ N))) (k0 := (a0.length - 0 + 2)) ⟨0, hq4, (by omega), rfl, rfl⟩ ⟨rfl, rfl, rfl, rfl, trivial⟩ (fun w m => m.pick [0] 1 rfl rfl) ?_)
  clear hq4
  rintro k12 L15 M16 ⟨n10, hl13, b11, e17, e18⟩
  rw [e17, e18]
  clear e17 e18 L15 M16
  rcases k12 with _ | k12
  ·rw [receipt_among_Hash.l1] at hl13; cases hl13
  rw [receipt_among_Hash.l1] at hl13
  refine Z4 (Z2 (Z0 (RV.lss rfl rfl) rfl (Z7 (.bool (decide (n10 < a0.length))) (congrArg Value.bool (decide_eq_decide.2 (by omega))) (Z6 (Z1 (Z4 ?_))))))
  by_cases h19 : n10 < a0.length
  ·replace hl13 := if_t hl13 h19
   refine Z13 rfl (decide_eq_true h19) (CW.skip (Z1 (Z4 (CW.block (Z4 (Z2 ?_))))))
   obtain ⟨x20, hx21, hl13⟩ := Z101 hl13
   have hl22 := Z110 hx21
   refine Z0 (Z103 (n10) rfl rfl rfl rfl rfl (va0.isSome (by decide) hl22) (by omega)) rfl ?_
   obtain ⟨cs23, h24, h25⟩ := ha0.get Ar8Rd.len hx21
   have h24a := h24
   subst h24a
   refine Z0 (Z104 rfl rfl rfl rfl (fun w m => va0.load (Z113 hΦ 1 m rfl) h25) ((Z100 _).trans Zv)) rfl (OW.alloc (l := (u8s (Vector.replicate 32 0#8).toList)) rfl (by rw [Vector.toList_replicate, ← u8s_rep']; rfl) rfl (fun b26 => (Z28 (SV.storeW rfl rfl rfl (u8s_one _) rfl ((Z100 _).trans Zv) ((Z100 _).trans Zv)) (Z6 (Z1 (Z4 (Z2 (Z0 (Z22 rfl (List.Mem.tail _ Zh) rfl rfl rfl rfl ((Z100 _).trans Zv)) rfl (Z0 (Z22 rfl Zh rfl rfl rfl rfl ((Z100 _).trans Zv)) rfl (Z0 (RV.eqA8 rfl rfl rfl rfl rfl rfl (Zv) (Zv)) rfl (Z7 (.bool (decide (a1 = x20))) (congrArg Value.bool (decide_eq_decide.2 Vector.toList_inj)) ?_)))))))))))
   refine Z6 (Z1 ?_)
   by_cases h27 : a1 = x20
   ·replace hl13 := if_t hl13 h27
    refine Z13 rfl (decide_eq_true h27) (Z4 (Z2 (Z0 (Z5 rfl) rfl (Z6 (Z1 (CW.ret (Z16 (Z8 (Z8 (Z16 (Z8 ?_)))))))))))
    have hc := Zi hl13
    subst hc
    try dsimp only at hf
    refine Z8 ?_
    have e0 := Zi hf
    subst e0
    refine Z111 (rs := [.tmp 4]) ([.bool true]) ((some b26, blk (u8s x20.toList) 24) :: (some b2, blk (u8s a1.toList) 24) :: []) rfl ?_ rfl ?_ ?_ _ (.inl rfl)
    ·exact ⟨rfl, trivial⟩
    ·exact rfl
    ·exact (fun w m => m)
   ·replace hl13 := if_f hl13 h27
    refine Z14 rfl (decide_eq_false h27) (CW.skip (Z27 (Z1 (Z2 (Z0 (RV.add rfl rfl (by omega)) rfl (Z7 (.int .i64 (((n10 + 1) : Nat) : Int)) (by first | rfl | (congr 1) | (congr 1; omega)) (Z0 (Z3 rfl) rfl (Z6 ?_))))))))
    exact Z106 (k' := k12) (Nat.lt_succ_self _) ⟨(n10 + 1), hl13, (by omega), rfl, rfl⟩ ⟨rfl, rfl, rfl, rfl, trivial⟩ (fun w m => m.pick [1] 2 rfl rfl)
  ·replace hl13 := if_f hl13 h19
   refine Z14 rfl (decide_eq_false h19) (CW.exit (Z9 (Z9 (Z15 ?_))))
   exact QW.join ⟨(Zi hl13).symm, rfl, rfl⟩ trivial (fun w m => m.pick [] 1 rfl rfl)
theorem receipt_Find_does (w0 : World) (Φ : Ctx) (N : List Ent) (hΦ : ∀ w, Mem w0 w N → Φ w) (A0_ : Option Addr) (c0_ : Nat) (cs0_ : List Value) (a0 : List (Log)) (A1_ : Option Addr) (c1_ : Nat) (cs1_ : List Value) (a1 : List (Vector (BitVec 8) 20)) (A2_ : Option Addr) (c2_ : Nat) (cs2_ : List Value) (a2 : List (List (Vector (BitVec 8) 32))) (res0 : List (Int)) (va0 : View Φ A0_ a0.length c0_ 22 cs0_) (ha0 : Reps (LogRd Φ) cs0_ a0) (va1 : View Φ A1_ a1.length c1_ 20 cs1_) (ha1 : Reps (Ar8Rd Φ) cs1_ a1) (va2 : View Φ A2_ a2.length c2_ 1 cs2_) (ha2 : Reps (HsRd Φ) cs2_ a2) (hf : receipt_Find a0 a1 a2 = some res0) : DoesG Tryd.prog 21 [.slice A0_ a0.length c0_, .slice A1_ a1.length c1_, .slice A2_ a2.length c2_] w0 [] N (fun v G => ∃ B : List Ent, ∃ or0 : Option Nat, ∃ kr0 : Nat, ∃ rr0 : List Value, (OwnS or0 res0.length kr0 1 (i64s res0) rr0) ∧ v = sl or0 0 res0.length kr0 ∧ G = (or0, blk ((i64s res0) ++ rr0) 3) :: B) := by
 unfold receipt_Find at hf
 replace va0 := va0.mono (Ψ := More w0 Φ []) (fun w q => q.1)
 replace va1 := va1.mono (Ψ := More w0 Φ []) (fun w q => q.1)
 replace va2 := va2.mono (Ψ := More w0 Φ []) (fun w q => q.1)
 replace ha0 := ha0.mono (LogRd.mono (Ψ := More w0 Φ []) (fun w q => q.1))
 replace ha1 := ha1.mono (Ar8Rd.mono (Ψ := More w0 Φ []) (fun w q => q.1))
 replace ha2 := ha2.mono (HsRd.mono (Ψ := More w0 Φ []) (fun w q => q.1))
 have m1 := va0.mx
 have m2 := va1.mx
 have m3 := va2.mx
 refine DoesG.enter Tryd.func21 rfl Tryd.ntmps21 rfl (M := (([] ++ N))) rfl (Z4 (Z2 (Z0 (Z5 rfl) rfl (Z6 (Z1 (CW.scope0 (Z4 (Z2 (Z0 (Z5 rfl) rfl (Z6 (Z1 (Z4 ?_))))))))))))
 refine CW.label (Z1 (Z4 (Z4 (Z2 (Z0 (Z3 rfl) rfl (Z0 (RV.len rfl rfl) rfl (Z0 (Z3 rfl) rfl (Z6 (Z1 ?_)))))))))
 obtain ⟨q4, hq5, hf⟩ := Z101 hf
 refine Z116 (fun L' M' => ∃ l6 : List (Int), ∃ ob7 : Option Nat, ∃ c8 : Nat, ∃ r9 : List Value, q4 = l6 ∧ (OwnS ob7 l6.length c8 1 (i64s l6) r9) ∧ L' = [(7, sl ob7 0 l6.length c8)] ∧ M' = ((ob7, blk ((i64s l6) ++ r9) 3) :: ([] ++ N))) ?_ ?_
 ·rintro L12 M13 ⟨l6, ob7, c8, r9, e11, o10, e14, e15⟩
  rw [e14, e15]
  clear e14 e15 L12 M13
  clear hq5
  rw [e11] at hf
  clear e11
  try dsimp only at hf
  have m16 := o10.mx
  refine Z1 (Z4 (Z2 (Z0 (Z3 rfl) rfl (Z0 (Z5 rfl) rfl (Z6 (Z1 (CW.ret (QW.scope_r ?_))))))))
  have e0 := Zi hf
  subst e0
  refine Z111 (rs := [.tmp 6]) ([sl ob7 0 l6.length c8]) ((ob7, blk ((i64s l6) ++ r9) 3) :: []) rfl ?_ rfl ?_ ?_ _ (.inl rfl)
  ·exact ⟨rfl, trivial⟩
  ·exact ⟨[], ob7, c8, r9, o10, rfl, rfl⟩
  ·exact (fun w m => m.pick [0] 1 rfl rfl)
 ·skip
  refine CW.block (CW.mem (M' := ((none, blk ((i64s ([] : List (Int))) ++ []) 3) :: ([] ++ N))) (fun w m => m.nil_ent _) (Z114 (fun k L' M' => ∃ l17 : List (Int), ∃ n22 : Nat, ∃ ob18 : Option Nat, ∃ c19 : Nat, ∃ r20 : List Value, (receipt_Find.l1 a0 a1 a2 k l17 n22) = some q4 ∧ (OwnS ob18 l17.length c19 1 (i64s l17) r20) ∧ (n22 ≤ 9223372036854775807) ∧ L' = [(1, .slice A1_ a1.length c1_), (2, .slice A2_ a2.length c2_), (7, sl ob18 0 l17.length c19), (12, .slice A0_ a0.length c0_), (13, .int .i64 ((a0.length : Nat) : Int)), (14, .int .i64 ((n22 : Nat) : Int))] ∧ M' = ((ob18, blk ((i64s l17) ++ r20) 3) :: ([] ++ N))) (k0 := (a0.length - 0 + 2)) ⟨([] : List (Int)), 0, none, 0, [], hq5, OwnS.nil, (by omega), rfl, rfl⟩ ⟨rfl, rfl, rfl, rfl, rfl, rfl, trivial⟩ (fun w m => m.pick [0] 1 rfl rfl) ?_))
  clear hq5
  rintro k24 L27 M28 ⟨l17, n22, ob18, c19, r20, hl25, o21, b23, e29, e30⟩
  rw [e29, e30]
  clear e29 e30 L27 M28
  rcases k24 with _ | k24
  ·rw [receipt_Find.l1] at hl25; cases hl25
  rw [receipt_Find.l1] at hl25
  have m31 := o21.mx
  refine Z4 (Z2 (Z0 (RV.lss rfl rfl) rfl (Z7 (.bool (decide (n22 < a0.length))) (congrArg Value.bool (decide_eq_decide.2 (by omega))) (Z6 (Z1 (Z4 ?_))))))
  by_cases h32 : n22 < a0.length
  ·replace hl25 := if_t hl25 h32
   refine Z13 rfl (decide_eq_true h32) (CW.skip (Z1 (Z4 (CW.block (Z4 (Z2 (Z0 (Z3 rfl) rfl ?_)))))))
   obtain ⟨x33, hx34, hl25⟩ := Z101 hl25
   have hl35 := Z110 hx34
   refine Z0 (Z103 (n22) rfl rfl rfl rfl rfl (va0.isSome (by decide) hl35) (by omega)) rfl ?_
   obtain ⟨cs36, h37, h38⟩ := ha0.get LogRd.len hx34
   have h48 := h37
   obtain ⟨A39, c40, cs42, A44, c45, e47, v41, h43, v46⟩ := LogRd.opn h37
   subst e47
   have m49 := v41.mx
   have m50 := v46.mx
   refine Z0 (Z104 rfl rfl rfl rfl (fun w m => va0.load (Z113 hΦ 1 m rfl) h38) (LogC.C_length _)) rfl (OW.alloc (l := (⟨(Vector.replicate 20 0#8), .slice none 0 0, .slice none 0 0⟩ : LogC).C) rfl (by kernel_rfl) rfl (fun b51 => (Z0 (Z5 rfl) rfl (Z28 (SV.storeW rfl rfl rfl (LogC.C_one _ rfl rfl) rfl (LogC.C_length _) (LogC.C_length _)) (Z6 (Z1 (Z4 (Z4 ?_))))))))
   obtain ⟨q52, hq53, hl25⟩ := Z101 hl25
   refine Z116 (fun L' M' => ∃ p54 : Bool, q52 = p54 ∧ L' = [(1, .slice A1_ a1.length c1_), (2, .slice A2_ a2.length c2_), (7, sl ob18 0 l17.length c19), (8, .int .i64 ((n22 : Nat) : Int)), (9, ptr (some b51) 0), (12, .slice A0_ a0.length c0_), (13, .int .i64 ((a0.length : Nat) : Int)), (14, .int .i64 ((n22 : Nat) : Int)), (36, .bool (p54))] ∧ M' = ((some b51, blk (⟨x33.address, .slice A39 x33.topics.length c40, .slice A44 x33.data.length c45⟩ : LogC).C 63) :: (ob18, blk ((i64s l17) ++ r20) 3) :: ([] ++ N))) ?_ ?_
   ·rintro L56 M57 ⟨p54, e55, e58, e59⟩
    rw [e58, e59]
    clear e58 e59 L56 M57
    clear hq53
    rw [e55] at hl25
    clear e55
    try dsimp only at hl25
    have m60 := o21.mx
    refine Z1 ?_
    by_cases h61 : p54 = true
    ·replace hl25 := if_t hl25 h61
     refine Z13 rfl (h61) (CW.exit (Z9 (Z15 (Z1 (Z2 (Z0 (RV.add rfl rfl (by omega)) rfl (Z7 (.int .i64 (((n22 + 1) : Nat) : Int)) (by first | rfl | (congr 1) | (congr 1; omega)) (Z0 (Z3 rfl) rfl (Z6 ?_)))))))))
     exact Z106 (k' := k24) (Nat.lt_succ_self _) ⟨l17, (n22 + 1), ob18, c19, r20, hl25, o21, (by omega), rfl, rfl⟩ ⟨rfl, rfl, rfl, rfl, rfl, rfl, trivial⟩ (fun w m => m.pick [1] 2 rfl rfl)
    ·replace hl25 := if_f hl25 h61
     refine Z14 rfl (Bool.eq_false_iff.2 h61) (CW.skip (Z1 (Z4 (Z4 (Z2 (Z0 (Z3 rfl) rfl (Z0 (RV.len rfl rfl) rfl (Z0 (Z3 rfl) rfl (Z6 (Z1 ?_))))))))))
     obtain ⟨q62, hq63, hl25⟩ := Z101 hl25
     refine Z116 (fun L' M' => q62 = Lq.go () ∧ L' = [(1, .slice A1_ a1.length c1_), (2, .slice A2_ a2.length c2_), (7, sl ob18 0 l17.length c19), (8, .int .i64 ((n22 : Nat) : Int)), (12, .slice A0_ a0.length c0_), (13, .int .i64 ((a0.length : Nat) : Int)), (14, .int .i64 ((n22 : Nat) : Int))] ∧ M' = ((ob18, blk ((i64s l17) ++ r20) 3) :: ([] ++ N))) ?_ ?_
     ·rintro L65 M66 ⟨e64, e67, e68⟩
      rw [e67, e68]
      clear e67 e68 L65 M66
      clear hq63
      rw [e64] at hl25
      clear e64
      try dsimp only at hl25
      have m69 := o21.mx
      refine Z1 (Z2 (Z0 (Z3 rfl) rfl (Z0 (Z3 rfl) rfl (OW.ofN (NV.bs1 rfl rfl rfl rfl rfl rfl) rfl (fun b70 => (Z20 (M' := (((some b70), blk ((i64s ([n22] : List (Int))) ++ []) 3) :: (ob18, blk ((i64s l17) ++ r20) 3) :: ([] ++ N))) (fun w m => by first | exact m | simpa [i64s] using m) ?_))))))
      have o71 : OwnS (some b70) ([n22] : List (Int)).length 1 1 (i64s ([n22] : List (Int))) [] := ⟨by simp [i64s], by simp [i64s], (fun h => nomatch h), by simp⟩
      have mx_o71 := o71.mx
      refine Z7 (sl (some b70) 0 ([n22] : List (Int)).length 1) (rfl) (OW.rot1 ?_)
      obtain ⟨g72, hl25⟩ := some_if hl25
      refine OW.appendOwn (s := 1) rfl rfl rfl rfl rfl rfl o21 (fun w m => m.rd0 (List.Mem.tail _ Zh) (fun e => o71.nilc (by decide) e)) o71.n (i64s_one _) (o71.zeroO (by decide)) (by decide) (by decide) (by first | omega | (simp only [i3, List.length_nil]; omega)) rfl rfl ((l17 ++ ([n22] : List (Int))).length) (i64s (l17 ++ ([n22] : List (Int)))) (List.length_append ..).symm (i64s_app _ _) (fun ob73 r74 c75 o76 => ?_)
      have m77 := o76.mx
      refine Z0 (Z5 rfl) rfl (Z6 (Z27 (Z1 (Z2 (Z0 (RV.add rfl rfl (by omega)) rfl (Z7 (.int .i64 (((n22 + 1) : Nat) : Int)) (by first | rfl | (congr 1) | (congr 1; omega)) (Z0 (Z3 rfl) rfl (Z6 ?_))))))))
      exact Z106 (k' := k24) (Nat.lt_succ_self _) ⟨(l17 ++ ([n22] : List (Int))), (n22 + 1), ob73, c75, r74, hl25, o76, (by omega), rfl, rfl⟩ ⟨rfl, rfl, rfl, rfl, rfl, rfl, trivial⟩ (fun w m => m.pick [0] 2 rfl rfl)
     ·skip
      refine CW.block (Z114 (fun k L' M' => ∃ n78 : Nat, (receipt_Find.l2 a2 x33 k n78) = some q62 ∧ (n78 ≤ 9223372036854775807) ∧ L' = [(1, .slice A1_ a1.length c1_), (2, .slice A2_ a2.length c2_), (7, sl ob18 0 l17.length c19), (8, .int .i64 ((n22 : Nat) : Int)), (9, ptr (some b51) 0), (12, .slice A0_ a0.length c0_), (13, .int .i64 ((a0.length : Nat) : Int)), (14, .int .i64 ((n22 : Nat) : Int)), (37, .slice A2_ a2.length c2_), (38, .int .i64 ((a2.length : Nat) : Int)), (39, .int .i64 ((n78 : Nat) : Int))] ∧ M' = ((some b51, blk (⟨x33.address, .slice A39 x33.topics.length c40, .slice A44 x33.data.length c45⟩ : LogC).C 63) :: (ob18, blk ((i64s l17) ++ r20) 3) :: ([] ++ N))) (k0 := (a2.length - 0 + 2)) ⟨0, hq63, (by omega), rfl, rfl⟩ ⟨rfl, rfl, rfl, rfl, rfl, rfl, rfl, rfl, rfl, rfl, rfl, trivial⟩ (fun w m => m.pick [0, 1] 2 rfl rfl) ?_)
      clear hq63
      rintro k80 L83 M84 ⟨n78, hl81, b79, e85, e86⟩
      rw [e85, e86]
      clear e85 e86 L83 M84
      rcases k80 with _ | k80
      ·rw [receipt_Find.l2] at hl81; cases hl81
      rw [receipt_Find.l2] at hl81
      have m87 := o21.mx
      refine Z4 (Z2 (Z0 (RV.lss rfl rfl) rfl (Z7 (.bool (decide (n78 < a2.length))) (congrArg Value.bool (decide_eq_decide.2 (by omega))) (Z6 (Z1 (Z4 ?_))))))
      by_cases h88 : n78 < a2.length
      ·replace hl81 := if_t hl81 h88
       refine Z13 rfl (decide_eq_true h88) (CW.skip (Z1 (Z4 (CW.block (Z4 (Z2 (Z0 (Z3 rfl) rfl ?_)))))))
       obtain ⟨x89, hx90, hl81⟩ := Z101 hl81
       have hl91 := Z110 hx90
       refine Z0 (Z119 (n78) rfl rfl rfl rfl rfl (va2.isSome (by decide) hl91) (by omega)) rfl ?_
       obtain ⟨cs92, h93, h94⟩ := ha2.get HsRd.len hx90
       obtain ⟨A95, c96, cs97, e100, v98, h99⟩ := h93
       subst e100
       have m101 := v98.mx
       refine Z0 (Z21 rfl rfl rfl (fun w m => by have := va2.load (Z113 hΦ 2 m rfl) h94 0 _ rfl; simpa [Addr.add] using this)) rfl ?_
       refine Z0 (Z5 rfl) rfl (Z0 (Z5 rfl) rfl (Z6 (Z1 (Z4 ?_))))
       obtain ⟨q102, hq103, hl81⟩ := Z101 hl81
       refine Z116 (fun L' M' => ∃ p104 : Bool, q102 = p104 ∧ L' = [(1, .slice A1_ a1.length c1_), (2, .slice A2_ a2.length c2_), (7, sl ob18 0 l17.length c19), (8, .int .i64 ((n22 : Nat) : Int)), (9, ptr (some b51) 0), (12, .slice A0_ a0.length c0_), (13, .int .i64 ((a0.length : Nat) : Int)), (14, .int .i64 ((n22 : Nat) : Int)), (37, .slice A2_ a2.length c2_), (38, .int .i64 ((a2.length : Nat) : Int)), (39, .int .i64 ((n78 : Nat) : Int)), (56, .bool (p104))] ∧ M' = ((some b51, blk (⟨x33.address, .slice A39 x33.topics.length c40, .slice A44 x33.data.length c45⟩ : LogC).C 63) :: (ob18, blk ((i64s l17) ++ r20) 3) :: ([] ++ N))) ?_ ?_
       ·rintro L106 M107 ⟨p104, e105, e108, e109⟩
        rw [e108, e109]
        clear e108 e109 L106 M107
        clear hq103
        rw [e105] at hl81
        clear e105
        try dsimp only at hl81
        have m110 := o21.mx
        refine Z1 ?_
        by_cases h111 : p104 = true
        ·replace hl81 := if_t hl81 h111
         refine Z13 rfl (h111) (CW.exit (QW.block_xn rfl (Z9 (Z9 (QW.block_xn rfl (Z9 ?_))))))
         have hc := Zi hl81
         subst hc
         try dsimp only at hl25
         refine Z9 (Z15 (Z1 (Z2 (Z0 (RV.add rfl rfl (by omega)) rfl (Z7 (.int .i64 (((n22 + 1) : Nat) : Int)) (by first | rfl | (congr 1) | (congr 1; omega)) (Z0 (Z3 rfl) rfl (Z6 ?_)))))))
         exact Z106 (k' := k24) (Nat.lt_succ_self _) ⟨l17, (n22 + 1), ob18, c19, r20, hl25, o21, (by omega), rfl, rfl⟩ ⟨rfl, rfl, rfl, rfl, rfl, rfl, trivial⟩ (fun w m => m.pick [1] 2 rfl rfl)
        ·replace hl81 := if_f hl81 h111
         refine Z14 rfl (Bool.eq_false_iff.2 h111) (CW.skip (Z27 (Z1 (Z2 (Z0 (RV.add rfl rfl (by omega)) rfl (Z7 (.int .i64 (((n78 + 1) : Nat) : Int)) (by first | rfl | (congr 1) | (congr 1; omega)) (Z0 (Z3 rfl) rfl (Z6 ?_))))))))
         exact Z106 (k' := k80) (Nat.lt_succ_self _) ⟨(n78 + 1), hl81, (by omega), rfl, rfl⟩ ⟨rfl, rfl, rfl, rfl, rfl, rfl, rfl, rfl, rfl, rfl, rfl, trivial⟩ (fun w m => m.pick [0, 1] 2 rfl rfl)
       ·skip
        refine Z2 (Z0 (Z3 rfl) rfl (Z0 (RV.len rfl rfl) rfl (Z0 (RV.gtr rfl rfl) rfl (Z7 (.bool (decide (0 < x89.length))) (congrArg Value.bool (decide_eq_decide.2 (by omega))) (Z0 (Z3 rfl) rfl ?_)))))
        by_cases h112 : 0 < x89.length
        ·replace hq103 := if_t hq103 h112
         refine Z7 (.bool true) (congrArg Value.bool (decide_eq_true h112)) (Z24 rfl (Z0 (Z3 rfl) rfl (Z24 rfl (Z0 (Z30 rfl rfl rfl rfl) rfl (Z7 (ptr (some b51) 20) rfl (Z24 rfl (Z0 (Z29 rfl Zh rfl rfl rfl (Z105 (⟨x33.address, .slice A39 x33.topics.length c40, .slice A44 x33.data.length c45⟩ : LogC))) rfl ?_)))))))
         refine Z24 rfl (Z0 (Z3 rfl) rfl (Z24 rfl ?_))
         obtain ⟨x113, hx114, hq103⟩ := Z101 hq103
         have hl115 := Z110 hx114
         refine Z0 (Z103 (n78) rfl rfl rfl rfl rfl (v41.isSome (by decide) hl115) (by omega)) rfl ?_
         obtain ⟨cs116, h117, h118⟩ := h43.get Ar8Rd.len hx114
         have h117a := h117
         subst h117a
         refine Z24 rfl (Z0 (Z104 rfl rfl rfl rfl (fun w m => v41.load (Z113 hΦ 2 m rfl) h118) ((Z100 _).trans Zv)) rfl (Z24 rfl ?_))
         obtain ⟨x120, hx119, hq103⟩ := Z101 hq103
         refine Z12 Tryd.call48 rfl (receipt_among_Hash_does w0 (More w0 Φ []) ((some b51, blk (⟨x33.address, .slice A39 x33.topics.length c40, .slice A44 x33.data.length c45⟩ : LogC).C 63) :: (ob18, blk ((i64s l17) ++ r20) 3) :: ([] ++ N)) (fun w m => Z113 hΦ 2 m rfl) A95 c96 cs97 x89 x113 x120 v98 h99 hx119) rfl rfl ?_
         rintro _ G121 rfl
         refine Z20 (M' := ((some b51, blk (⟨x33.address, .slice A39 x33.topics.length c40, .slice A44 x33.data.length c45⟩ : LogC).C 63) :: (ob18, blk ((i64s l17) ++ r20) 3) :: ([] ++ N))) (fun w m => m.appR) (Z24 rfl (Z0 (RV.not rfl) rfl (Z0 (Z112 rfl rfl rfl) rfl (Z6 ?_))))
         exact QW.join ⟨(!x120), (Zi hq103).symm, rfl, rfl⟩ ⟨rfl, rfl, rfl, rfl, rfl, rfl, rfl, rfl, rfl, rfl, rfl, rfl, trivial⟩ (fun w m => m.pick [0, 1] 2 rfl rfl)
        ·replace hq103 := if_f hq103 h112
         refine Z7 (.bool false) (congrArg Value.bool (decide_eq_false h112)) (Z23 rfl rfl rfl (Z23 rfl rfl rfl (Z23 rfl rfl rfl (Z23 rfl rfl rfl (Z23 rfl rfl rfl (Z23 rfl rfl rfl (Z23 rfl rfl rfl ?_)))))))
         refine Z23 rfl rfl rfl (Z0 (Z107 rfl rfl rfl) rfl (Z6 ?_))
         exact QW.join ⟨false, (Zi hq103).symm, rfl, rfl⟩ ⟨rfl, rfl, rfl, rfl, rfl, rfl, rfl, rfl, rfl, rfl, rfl, rfl, trivial⟩ (fun w m => m.pick [0, 1] 2 rfl rfl)
      ·replace hl81 := if_f hl81 h88
       refine Z14 rfl (decide_eq_false h88) (CW.exit (Z9 (Z9 (Z15 ?_))))
       exact QW.join ⟨(Zi hl81).symm, rfl, rfl⟩ ⟨rfl, rfl, rfl, rfl, rfl, rfl, rfl, trivial⟩ (fun w m => m.pick [1] 2 rfl rfl)
   ·skip
    refine Z2 (Z0 (Z30 rfl rfl rfl rfl) rfl (Z7 (ptr (some b51) 20) rfl (Z0 (Z29 rfl Zh rfl rfl rfl (Z105 (⟨x33.address, .slice A39 x33.topics.length c40, .slice A44 x33.data.length c45⟩ : LogC))) rfl (Z0 (RV.len rfl rfl) rfl (Z0 (Z3 rfl) rfl (Z0 (RV.len rfl rfl) rfl (Z0 (RV.lss rfl rfl) rfl ?_)))))))
    refine Z7 (.bool (decide (x33.topics.length < a2.length))) (congrArg Value.bool (decide_eq_decide.2 (by omega))) (Z0 (Z3 rfl) rfl ?_)
    by_cases h123 : x33.topics.length < a2.length
    ·replace hq53 := if_t hq53 h123
     refine Z7 (.bool true) (congrArg Value.bool (decide_eq_true h123)) (Z23 rfl rfl rfl (Z23 rfl rfl rfl (Z23 rfl rfl rfl (Z23 rfl rfl rfl (Z23 rfl rfl rfl (Z23 rfl rfl rfl (Z23 rfl rfl rfl ?_)))))))
     refine Z23 rfl rfl rfl (Z23 rfl rfl rfl (Z23 rfl rfl rfl (Z0 (Z112 rfl rfl rfl) rfl (Z6 ?_))))
     exact QW.join ⟨true, (Zi hq53).symm, rfl, rfl⟩ ⟨rfl, rfl, rfl, rfl, rfl, rfl, rfl, rfl, rfl, trivial⟩ (fun w m => m.pick [0, 1] 2 rfl rfl)
    ·replace hq53 := if_f hq53 h123
     refine Z7 (.bool false) (congrArg Value.bool (decide_eq_false h123)) (Z24 rfl (Z0 (Z3 rfl) rfl (Z24 rfl (Z0 (RV.len rfl rfl) rfl (Z24 rfl (Z0 (RV.gtr rfl rfl) rfl (Z7 (.bool (decide (0 < a1.length))) (congrArg Value.bool (decide_eq_decide.2 (by omega))) ?_)))))))
     refine Z24 rfl (Z0 (Z3 rfl) rfl ?_)
     by_cases h124 : 0 < a1.length
     ·replace hq53 := if_t hq53 h124
      refine Z7 (.bool true) (congrArg Value.bool (decide_eq_true h124)) (Z24 rfl (Z0 (Z3 rfl) rfl (Z24 rfl (Z0 (Z30 rfl rfl rfl rfl) rfl (Z7 (ptr (some b51) 0) rfl (Z24 rfl (Z0 (RV.loadAo rfl Zh rfl rfl rfl rfl (Z109 (⟨x33.address, .slice A39 x33.topics.length c40, .slice A44 x33.data.length c45⟩ : LogC)) ((Z100 _).trans Zv)) rfl ?_)))))))
      refine Z24 rfl ?_
      obtain ⟨x126, hx125, hq53⟩ := Z101 hq53
      refine Z12 Tryd.call47 rfl (receipt_among_Address_does w0 (More w0 Φ []) ((some b51, blk (⟨x33.address, .slice A39 x33.topics.length c40, .slice A44 x33.data.length c45⟩ : LogC).C 63) :: (ob18, blk ((i64s l17) ++ r20) 3) :: ([] ++ N)) (fun w m => Z113 hΦ 2 m rfl) A1_ c1_ cs1_ a1 x33.address x126 va1 ha1 hx125) rfl rfl ?_
      rintro _ G127 rfl
      refine Z20 (M' := ((some b51, blk (⟨x33.address, .slice A39 x33.topics.length c40, .slice A44 x33.data.length c45⟩ : LogC).C 63) :: (ob18, blk ((i64s l17) ++ r20) 3) :: ([] ++ N))) (fun w m => m.appR) (Z24 rfl (Z0 (RV.not rfl) rfl (Z24 rfl (Z0 (Z112 rfl rfl rfl) rfl (Z0 (Z107 rfl rfl rfl) rfl (Z6 ?_))))))
      exact QW.join ⟨(!x126), (Zi hq53).symm, rfl, rfl⟩ ⟨rfl, rfl, rfl, rfl, rfl, rfl, rfl, rfl, rfl, trivial⟩ (fun w m => m.pick [0, 1] 2 rfl rfl)
     ·replace hq53 := if_f hq53 h124
      refine Z7 (.bool false) (congrArg Value.bool (decide_eq_false h124)) (Z23 rfl rfl rfl (Z23 rfl rfl rfl (Z23 rfl rfl rfl (Z23 rfl rfl rfl (Z23 rfl rfl rfl (Z24 rfl (Z0 (Z107 rfl rfl rfl) rfl ?_)))))))
      refine Z0 (Z107 rfl rfl rfl) rfl (Z6 ?_)
      exact QW.join ⟨false, (Zi hq53).symm, rfl, rfl⟩ ⟨rfl, rfl, rfl, rfl, rfl, rfl, rfl, rfl, rfl, trivial⟩ (fun w m => m.pick [0, 1] 2 rfl rfl)
  ·replace hl25 := if_f hl25 h32
   refine Z14 rfl (decide_eq_false h32) (CW.exit (Z9 (Z9 (Z15 ?_))))
   exact QW.join ⟨l17, ob18, c19, r20, (Zi hl25).symm, o21, rfl, rfl⟩ ⟨rfl, trivial⟩ (fun w m => m.pick [0] 1 rfl rfl)
theorem waybilllaw17_same_does (w0 : World) (Φ : Ctx) (N : List Ent) (hΦ : ∀ w, Mem w0 w N → Φ w) (A0_ : Option Addr) (c0_ : Nat) (a0 : List (BitVec 8)) (A1_ : Option Addr) (c1_ : Nat) (a1 : List (BitVec 8)) (res0 : Bool) (va0 : View Φ A0_ a0.length c0_ 1 (u8s a0)) (va1 : View Φ A1_ a1.length c1_ 1 (u8s a1)) (hf : waybilllaw17_same a0 a1 = some res0) : DoesG Tryd.prog 35 [.slice A0_ a0.length c0_, .slice A1_ a1.length c1_] w0 [] N (fun v G => v = .bool res0) := by
 unfold waybilllaw17_same at hf
 replace va0 := va0.mono (Ψ := More w0 Φ []) (fun w q => q.1)
 replace va1 := va1.mono (Ψ := More w0 Φ []) (fun w q => q.1)
 have m1 := va0.mx
 have m2 := va1.mx
 refine DoesG.enter Tryd.func35 rfl Tryd.ntmps35 rfl (M := (([] ++ N))) rfl (Z4 (Z2 (Z0 (Z5 rfl) rfl (Z6 (Z1 (Z4 (Z4 (Z2 (Z0 (Z3 rfl) rfl (Z0 (RV.len rfl rfl) rfl (Z0 (Z3 rfl) rfl (Z0 (RV.len rfl rfl) rfl ?_))))))))))))
 refine Z0 (RV.neq rfl rfl) rfl (Z7 (.bool (!decide (a0.length = a1.length))) (congrArg (fun b => Value.bool (!b)) (decide_eq_decide.2 (by omega))) (Z6 (Z1 ?_)))
 by_cases h3 : a0.length = a1.length
 ·replace hf := if_t hf h3
  refine Z14 rfl (congrArg (fun b => !b) (decide_eq_true h3)) (CW.skip (Z1 (Z4 (Z4 (Z2 (Z0 (Z5 rfl) rfl (Z6 (Z1 ?_))))))))
  obtain ⟨q4, hq5, hf⟩ := Z101 hf
  refine Z116 (fun L' M' => q4 = Lp.go () ∧ L' = [] ∧ M' = (([] ++ N))) ?_ ?_
  ·rintro L7 M8 ⟨e6, e9, e10⟩
   rw [e9, e10]
   clear e9 e10 L7 M8
   clear hq5
   rw [e6] at hf
   clear e6
   try dsimp only at hf
   refine Z1 (Z4 (Z2 (Z0 (Z5 rfl) rfl (Z6 (Z1 (CW.ret ?_))))))
   have e0 := Zi hf
   subst e0
   refine Z111 (rs := [.tmp 4]) ([.bool true]) ([]) rfl ?_ rfl ?_ ?_ _ (.inl rfl)
   ·exact ⟨rfl, trivial⟩
   ·exact rfl
   ·exact (fun w m => m)
  ·skip
   refine CW.block (Z114 (fun k L' M' => ∃ n11 : Nat, (waybilllaw17_same.l1 a0 a1 k n11) = some q4 ∧ (n11 ≤ 9223372036854775807) ∧ L' = [(0, .slice A0_ a0.length c0_), (1, .slice A1_ a1.length c1_), (5, .int .i64 ((n11 : Nat) : Int))] ∧ M' = (([] ++ N))) (k0 := (a0.length - 0 + 2)) ⟨0, hq5, (by omega), rfl, rfl⟩ ⟨rfl, rfl, rfl, trivial⟩ (fun w m => m.pick [] 0 rfl rfl) ?_)
   clear hq5
   rintro k13 L16 M17 ⟨n11, hl14, b12, e18, e19⟩
   rw [e18, e19]
   clear e18 e19 L16 M17
   rcases k13 with _ | k13
   ·rw [waybilllaw17_same.l1] at hl14; cases hl14
   rw [waybilllaw17_same.l1] at hl14
   refine Z4 (Z4 (Z2 (Z0 (Z3 rfl) rfl (Z0 (Z3 rfl) rfl (Z0 (RV.len rfl rfl) rfl (Z0 (RV.lss rfl rfl) rfl (Z7 (.bool (decide (n11 < a0.length))) (congrArg Value.bool (decide_eq_decide.2 (by omega))) (Z6 (Z1 ?_)))))))))
   by_cases h20 : n11 < a0.length
   ·replace hl14 := if_t hl14 h20
    refine Z13 rfl (decide_eq_true h20) (CW.skip (Z1 (Z4 (CW.block (Z4 (CW.drawsU 9 mixed (by kernel_rfl) rfl (Z18 0 rfl (by kernel_rfl) rfl (Z3 rfl) rfl (Z18 1 rfl (by kernel_rfl) rfl (Z3 rfl) rfl ?_))))))))
    obtain ⟨x21, hx22, hl14⟩ := Z101 hl14
    have hl23 := Z110 hx22
    refine Z18 2 rfl (by kernel_rfl) rfl (Z119 (n11) rfl rfl rfl rfl rfl (va0.isSome (by decide) hl23) (by omega)) rfl (Z18 3 rfl (by kernel_rfl) rfl (Z21 rfl rfl rfl (fun w m => va0.cell (Z113 hΦ 0 m rfl) (u8s_at hx22))) rfl (Z18 4 rfl (by kernel_rfl) rfl (Z3 rfl) rfl (Z18 5 rfl (by kernel_rfl) rfl (Z3 rfl) rfl ?_)))
    obtain ⟨x24, hx25, hl14⟩ := Z101 hl14
    have hl26 := Z110 hx25
    refine Z18 6 rfl (by kernel_rfl) rfl (Z119 (n11) rfl rfl rfl rfl rfl (va1.isSome (by decide) hl26) (by omega)) rfl (Z18 7 rfl (by kernel_rfl) rfl (Z21 rfl rfl rfl (fun w m => va1.cell (Z113 hΦ 0 m rfl) (u8s_at hx25))) rfl (Z18 8 rfl (by kernel_rfl) rfl (RV.neq8 rfl (by first | rfl | exact lit8 _ rfl) rfl (by first | rfl | exact lit8 _ rfl)) rfl (UW.nil (by kernel_rfl) (Z6 (Z1 ?_)))))
    by_cases h27 : x21 = x24
    ·replace hl14 := if_t hl14 h27
     refine Z14 rfl (congrArg (fun b => !b) (decide_eq_true h27)) (CW.skip (Z27 (Z1 (Z2 (Z0 (Z3 rfl) rfl (Z0 (RV.add rfl rfl (by omega)) rfl (Z7 (.int .i64 (((n11 + 1) : Nat) : Int)) (by first | rfl | (congr 1) | (congr 1; omega)) (Z0 (Z5 rfl) rfl (Z6 ?_)))))))))
     exact Z106 (k' := k13) (Nat.lt_succ_self _) ⟨(n11 + 1), hl14, (by omega), rfl, rfl⟩ ⟨rfl, rfl, rfl, trivial⟩ (fun w m => m.pick [] 0 rfl rfl)
    ·replace hl14 := if_f hl14 h27
     refine Z13 rfl (congrArg (fun b => !b) (decide_eq_false h27)) (Z4 (Z2 (Z0 (Z5 rfl) rfl (Z6 (Z1 (CW.ret (Z16 (Z8 (Z8 (Z16 (Z8 ?_)))))))))))
     have hc := Zi hl14
     subst hc
     try dsimp only at hf
     refine Z8 ?_
     have e0 := Zi hf
     subst e0
     refine Z111 (rs := [.tmp 4]) ([.bool false]) ([]) rfl ?_ rfl ?_ ?_ _ (.inl rfl)
     ·exact ⟨rfl, trivial⟩
     ·exact rfl
     ·exact (fun w m => m)
   ·replace hl14 := if_f hl14 h20
    refine Z14 rfl (decide_eq_false h20) (CW.exit (Z9 (Z9 (Z15 ?_))))
    exact QW.join ⟨(Zi hl14).symm, rfl, rfl⟩ trivial (fun w m => m.pick [] 0 rfl rfl)
 ·replace hf := if_f hf h3
  refine Z13 rfl (congrArg (fun b => !b) (decide_eq_false h3)) (Z4 (Z2 (Z0 (Z5 rfl) rfl (Z6 (Z1 (CW.ret (Z8 ?_)))))))
  have e0 := Zi hf
  subst e0
  refine Z111 (rs := [.tmp 4]) ([.bool false]) ([]) rfl ?_ rfl ?_ ?_ _ (.inl rfl)
  ·exact ⟨rfl, trivial⟩
  ·exact rfl
  ·exact (fun w m => m)
theorem waybilllaw17_sameLog_does (w0 : World) (Φ : Ctx) (N : List Ent) (hΦ : ∀ w, Mem w0 w N → Φ w) (cs0_ : List Value) (a0 : Log) (cs1_ : List Value) (a1 : Log) (res0 : Bool) (ha0 : LogRd Φ cs0_ a0) (ha1 : LogRd Φ cs1_ a1) (hf : waybilllaw17_sameLog a0 a1 = some res0) : DoesG Tryd.prog 76 [.agg cs0_.toArray, .agg cs1_.toArray] w0 [] N (fun v G => v = .bool res0) := by
 unfold waybilllaw17_sameLog at hf
 replace ha0 := LogRd.mono (Ψ := More w0 Φ []) (fun w q => q.1) _ _ ha0
 have h10 := ha0
 obtain ⟨A1, c2, cs4, A6, c7, e9, v3, h5, v8⟩ := LogRd.opn ha0
 subst e9
 have m11 := v3.mx
 have m12 := v8.mx
 replace ha1 := LogRd.mono (Ψ := More w0 Φ []) (fun w q => q.1) _ _ ha1
 have h22 := ha1
 obtain ⟨A13, c14, cs16, A18, c19, e21, v15, h17, v20⟩ := LogRd.opn ha1
 subst e21
 have m23 := v15.mx
 have m24 := v20.mx
 refine DoesG.enter Tryd.func76 rfl Tryd.ntmps76 rfl (M := (([] ++ N))) rfl (Z4 (Z2 (OW.boxA rfl rfl (fun b25 => (OW.boxA rfl rfl (fun b26 => (Z0 (Z5 rfl) rfl (Z6 (Z1 (Z4 (Z4 ?_)))))))))))
 obtain ⟨q27, hq28, hf⟩ := Z101 hf
 refine Z116 (fun L' M' => ∃ p29 : Bool, q27 = p29 ∧ L' = [(2, ptr (some b25) 0), (3, ptr (some b26) 0), (19, .bool (p29))] ∧ M' = ((some b26, blk (⟨a1.address, .slice A13 a1.topics.length c14, .slice A18 a1.data.length c19⟩ : LogC).C 63) :: (some b25, blk (⟨a0.address, .slice A1 a0.topics.length c2, .slice A6 a0.data.length c7⟩ : LogC).C 63) :: ([] ++ N))) ?_ ?_
 ·rintro L31 M32 ⟨p29, e30, e33, e34⟩
  rw [e33, e34]
  clear e33 e34 L31 M32
  clear hq28
  rw [e30] at hf
  clear e30
  try dsimp only at hf
  refine Z1 ?_
  by_cases h35 : p29 = true
  ·replace hf := if_t hf h35
   refine Z13 rfl (h35) (Z4 (Z2 (Z0 (Z5 rfl) rfl (Z6 (Z1 (CW.ret (Z8 ?_)))))))
   have e0 := Zi hf
   subst e0
   refine Z111 (rs := [.tmp 4]) ([.bool false]) ((some b26, blk (⟨a1.address, .slice A13 a1.topics.length c14, .slice A18 a1.data.length c19⟩ : LogC).C 63) :: (some b25, blk (⟨a0.address, .slice A1 a0.topics.length c2, .slice A6 a0.data.length c7⟩ : LogC).C 63) :: []) rfl ?_ rfl ?_ ?_ _ (.inl rfl)
   ·exact ⟨rfl, trivial⟩
   ·exact rfl
   ·exact (fun w m => m)
  ·replace hf := if_f hf h35
   refine Z14 rfl (Bool.eq_false_iff.2 h35) (CW.skip (Z1 (Z4 (Z4 (Z2 (Z0 (Z5 rfl) rfl (Z6 (Z1 ?_))))))))
   obtain ⟨q36, hq37, hf⟩ := Z101 hf
   refine Z116 (fun L' M' => q36 = Lp.go () ∧ L' = [(2, ptr (some b25) 0), (3, ptr (some b26) 0)] ∧ M' = ((some b26, blk (⟨a1.address, .slice A13 a1.topics.length c14, .slice A18 a1.data.length c19⟩ : LogC).C 63) :: (some b25, blk (⟨a0.address, .slice A1 a0.topics.length c2, .slice A6 a0.data.length c7⟩ : LogC).C 63) :: ([] ++ N))) ?_ ?_
   ·rintro L39 M40 ⟨e38, e41, e42⟩
    rw [e41, e42]
    clear e41 e42 L39 M40
    clear hq37
    rw [e38] at hf
    clear e38
    try dsimp only at hf
    refine Z1 (Z4 (Z2 (Z0 (Z30 rfl rfl rfl rfl) rfl (Z7 (ptr (some b25) 21) rfl (Z0 (Z29 rfl (List.Mem.tail _ Zh) rfl rfl rfl (LogC.C_data (⟨a0.address, .slice A1 a0.topics.length c2, .slice A6 a0.data.length c7⟩ : LogC))) rfl (Z0 (Z30 rfl rfl rfl rfl) rfl (Z7 (ptr (some b26) 21) rfl (Z0 (Z29 rfl Zh rfl rfl rfl (LogC.C_data (⟨a1.address, .slice A13 a1.topics.length c14, .slice A18 a1.data.length c19⟩ : LogC))) rfl ?_))))))))
    obtain ⟨x44, hx43, hf⟩ := Z101 hf
    refine Z12 Tryd.call35 rfl (waybilllaw17_same_does w0 (More w0 Φ []) ((some b26, blk (⟨a1.address, .slice A13 a1.topics.length c14, .slice A18 a1.data.length c19⟩ : LogC).C 63) :: (some b25, blk (⟨a0.address, .slice A1 a0.topics.length c2, .slice A6 a0.data.length c7⟩ : LogC).C 63) :: ([] ++ N)) (fun w m => Z113 hΦ 2 m rfl) A6 c7 a0.data A18 c19 a1.data x44 v8 v20 hx43) rfl rfl ?_
    rintro _ G45 rfl
    refine Z20 (M' := ((some b26, blk (⟨a1.address, .slice A13 a1.topics.length c14, .slice A18 a1.data.length c19⟩ : LogC).C 63) :: (some b25, blk (⟨a0.address, .slice A1 a0.topics.length c2, .slice A6 a0.data.length c7⟩ : LogC).C 63) :: ([] ++ N))) (fun w m => m.appR) (Z0 (Z5 rfl) rfl (Z6 (Z1 (CW.ret ?_))))
    have e0 := Zi hf
    subst e0
    refine Z111 (rs := [.tmp 4]) ([.bool (x44)]) ((some b26, blk (⟨a1.address, .slice A13 a1.topics.length c14, .slice A18 a1.data.length c19⟩ : LogC).C 63) :: (some b25, blk (⟨a0.address, .slice A1 a0.topics.length c2, .slice A6 a0.data.length c7⟩ : LogC).C 63) :: []) rfl ?_ rfl ?_ ?_ _ (.inl rfl)
    ·exact ⟨rfl, trivial⟩
    ·exact rfl
    ·exact (fun w m => m)
   ·skip
    refine CW.block (Z114 (fun k L' M' => ∃ n47 : Nat, (waybilllaw17_sameLog.l1 a0 a1 k n47) = some q36 ∧ (n47 ≤ 9223372036854775807) ∧ L' = [(2, ptr (some b25) 0), (3, ptr (some b26) 0), (5, .int .i64 ((n47 : Nat) : Int))] ∧ M' = ((some b26, blk (⟨a1.address, .slice A13 a1.topics.length c14, .slice A18 a1.data.length c19⟩ : LogC).C 63) :: (some b25, blk (⟨a0.address, .slice A1 a0.topics.length c2, .slice A6 a0.data.length c7⟩ : LogC).C 63) :: ([] ++ N))) (k0 := (a0.topics.length - 0 + 2)) ⟨0, hq37, (by omega), rfl, rfl⟩ ⟨rfl, rfl, rfl, trivial⟩ (fun w m => m.pick [0, 1] 2 rfl rfl) ?_)
    clear hq37
    rintro k49 L52 M53 ⟨n47, hl50, b48, e54, e55⟩
    rw [e54, e55]
    clear e54 e55 L52 M53
    rcases k49 with _ | k49
    ·rw [waybilllaw17_sameLog.l1] at hl50; cases hl50
    rw [waybilllaw17_sameLog.l1] at hl50
    refine Z4 (Z4 (Z2 (Z0 (Z3 rfl) rfl (Z0 (Z30 rfl rfl rfl rfl) rfl (Z7 (ptr (some b25) 20) rfl (Z0 (Z29 rfl (List.Mem.tail _ Zh) rfl rfl rfl (Z105 (⟨a0.address, .slice A1 a0.topics.length c2, .slice A6 a0.data.length c7⟩ : LogC))) rfl (Z0 (RV.len rfl rfl) rfl (Z0 (RV.lss rfl rfl) rfl (Z7 (.bool (decide (n47 < a0.topics.length))) (congrArg Value.bool (decide_eq_decide.2 (by omega))) ?_)))))))))
    refine Z6 (Z1 ?_)
    by_cases h56 : n47 < a0.topics.length
    ·replace hl50 := if_t hl50 h56
     refine Z13 rfl (decide_eq_true h56) (CW.skip (Z1 (Z4 (CW.block (Z4 (CW.drawsU 11 mixed (by kernel_rfl) rfl (Z18 0 rfl (by kernel_rfl) rfl (Z30 rfl rfl rfl rfl) rfl (UW.slot (ptr (some b25) 20) rfl (Z18 1 rfl (by kernel_rfl) rfl (Z29 rfl (List.Mem.tail _ Zh) rfl rfl rfl (Z105 (⟨a0.address, .slice A1 a0.topics.length c2, .slice A6 a0.data.length c7⟩ : LogC))) rfl (Z18 2 rfl (by kernel_rfl) rfl (Z3 rfl) rfl ?_))))))))))
     obtain ⟨x57, hx58, hl50⟩ := Z101 hl50
     have hl59 := Z110 hx58
     refine Z18 3 rfl (by kernel_rfl) rfl (Z103 (n47) rfl rfl rfl rfl rfl (v3.isSome (by decide) hl59) (by omega)) rfl ?_
     obtain ⟨cs60, h61, h62⟩ := h5.get Ar8Rd.len hx58
     have h61a := h61
     subst h61a
     refine Z18 4 rfl (by kernel_rfl) rfl (Z104 rfl rfl rfl rfl (fun w m => v3.load (Z113 hΦ 2 m rfl) h62) ((Z100 _).trans Zv)) rfl (Z18 5 rfl (by kernel_rfl) rfl (Z30 rfl rfl rfl rfl) rfl (UW.slot (ptr (some b26) 20) rfl (Z18 6 rfl (by kernel_rfl) rfl (Z29 rfl Zh rfl rfl rfl (Z105 (⟨a1.address, .slice A13 a1.topics.length c14, .slice A18 a1.data.length c19⟩ : LogC))) rfl (Z18 7 rfl (by kernel_rfl) rfl (Z3 rfl) rfl ?_))))
     obtain ⟨x63, hx64, hl50⟩ := Z101 hl50
     have hl65 := Z110 hx64
     refine Z18 8 rfl (by kernel_rfl) rfl (Z103 (n47) rfl rfl rfl rfl rfl (v15.isSome (by decide) hl65) (by omega)) rfl ?_
     obtain ⟨cs66, h67, h68⟩ := h17.get Ar8Rd.len hx64
     have h67a := h67
     subst h67a
     refine Z18 9 rfl (by kernel_rfl) rfl (Z104 rfl rfl rfl rfl (fun w m => v15.load (Z113 hΦ 2 m rfl) h68) ((Z100 _).trans Zv)) rfl (Z18 10 rfl (by kernel_rfl) rfl (RV.neA8 rfl rfl rfl rfl rfl rfl (Zv) (Zv)) rfl (UW.slot (.bool (!decide (x57 = x63))) (congrArg (fun b => Value.bool (!b)) (decide_eq_decide.2 Vector.toList_inj)) (UW.nil (by kernel_rfl) (Z6 (Z1 ?_)))))
     by_cases h69 : x57 = x63
     ·replace hl50 := if_t hl50 h69
      refine Z14 rfl (congrArg (fun b => !b) (decide_eq_true h69)) (CW.skip (Z27 (Z1 (Z2 (Z0 (Z3 rfl) rfl (Z0 (RV.add rfl rfl (by omega)) rfl (Z7 (.int .i64 (((n47 + 1) : Nat) : Int)) (by first | rfl | (congr 1) | (congr 1; omega)) (Z0 (Z5 rfl) rfl (Z6 ?_)))))))))
      exact Z106 (k' := k49) (Nat.lt_succ_self _) ⟨(n47 + 1), hl50, (by omega), rfl, rfl⟩ ⟨rfl, rfl, rfl, trivial⟩ (fun w m => m.pick [0, 1] 2 rfl rfl)
     ·replace hl50 := if_f hl50 h69
      refine Z13 rfl (congrArg (fun b => !b) (decide_eq_false h69)) (Z4 (Z2 (Z0 (Z5 rfl) rfl (Z6 (Z1 (CW.ret (Z16 (Z8 (Z8 (Z16 (Z8 ?_)))))))))))
      have hc := Zi hl50
      subst hc
      try dsimp only at hf
      refine Z8 ?_
      have e0 := Zi hf
      subst e0
      refine Z111 (rs := [.tmp 4]) ([.bool false]) ((some b26, blk (⟨a1.address, .slice A13 a1.topics.length c14, .slice A18 a1.data.length c19⟩ : LogC).C 63) :: (some b25, blk (⟨a0.address, .slice A1 a0.topics.length c2, .slice A6 a0.data.length c7⟩ : LogC).C 63) :: []) rfl ?_ rfl ?_ ?_ _ (.inl rfl)
      ·exact ⟨rfl, trivial⟩
      ·exact rfl
      ·exact (fun w m => m)
    ·replace hl50 := if_f hl50 h56
     refine Z14 rfl (decide_eq_false h56) (CW.exit (Z9 (Z9 (Z15 ?_))))
     exact QW.join ⟨(Zi hl50).symm, rfl, rfl⟩ ⟨rfl, rfl, trivial⟩ (fun w m => m.pick [0, 1] 2 rfl rfl)
 ·skip
  refine Z2 (Z0 (Z30 rfl rfl rfl rfl) rfl (Z7 (ptr (some b25) 0) rfl (Z0 (RV.loadAo rfl (List.Mem.tail _ Zh) rfl rfl rfl rfl (Z109 (⟨a0.address, .slice A1 a0.topics.length c2, .slice A6 a0.data.length c7⟩ : LogC)) ((Z100 _).trans Zv)) rfl (Z0 (Z30 rfl rfl rfl rfl) rfl (Z7 (ptr (some b26) 0) rfl (Z0 (RV.loadAo rfl Zh rfl rfl rfl rfl (Z109 (⟨a1.address, .slice A13 a1.topics.length c14, .slice A18 a1.data.length c19⟩ : LogC)) ((Z100 _).trans Zv)) rfl (Z0 (RV.neA8 rfl rfl rfl rfl rfl rfl (Zv) (Zv)) rfl ?_)))))))
  refine Z7 (.bool (!decide (a0.address = a1.address))) (congrArg (fun b => Value.bool (!b)) (decide_eq_decide.2 Vector.toList_inj)) (Z0 (Z3 rfl) rfl ?_)
  by_cases h70 : a0.address = a1.address
  ·replace hq28 := if_t hq28 h70
   refine Z7 (.bool false) (congrArg Value.bool (congrArg (fun b => !b) (decide_eq_true h70))) (Z24 rfl (Z0 (Z30 rfl rfl rfl rfl) rfl (Z7 (ptr (some b25) 20) rfl (Z24 rfl (Z0 (Z29 rfl (List.Mem.tail _ Zh) rfl rfl rfl (Z105 (⟨a0.address, .slice A1 a0.topics.length c2, .slice A6 a0.data.length c7⟩ : LogC))) rfl (Z24 rfl (Z0 (RV.len rfl rfl) rfl ?_)))))))
   refine Z24 rfl (Z0 (Z30 rfl rfl rfl rfl) rfl (Z7 (ptr (some b26) 20) rfl (Z24 rfl (Z0 (Z29 rfl Zh rfl rfl rfl (Z105 (⟨a1.address, .slice A13 a1.topics.length c14, .slice A18 a1.data.length c19⟩ : LogC))) rfl (Z24 rfl (Z0 (RV.len rfl rfl) rfl (Z24 rfl ?_)))))))
   refine Z0 (RV.neq rfl rfl) rfl (Z7 (.bool (!decide (a0.topics.length = a1.topics.length))) (congrArg (fun b => Value.bool (!b)) (decide_eq_decide.2 (by omega))) (Z0 (Z107 rfl rfl rfl) rfl (Z6 ?_)))
   exact QW.join ⟨(!decide (a0.topics.length = a1.topics.length)), (Zi hq28).symm, rfl, rfl⟩ ⟨rfl, rfl, rfl, trivial⟩ (fun w m => m.pick [0, 1] 2 rfl rfl)
  ·replace hq28 := if_f hq28 h70
   refine Z7 (.bool true) (congrArg Value.bool (congrArg (fun b => !b) (decide_eq_false h70))) (Z23 rfl rfl rfl (Z23 rfl rfl rfl (Z23 rfl rfl rfl (Z23 rfl rfl rfl (Z23 rfl rfl rfl (Z23 rfl rfl rfl (Z23 rfl rfl rfl ?_)))))))
   refine Z0 (Z112 rfl rfl rfl) rfl (Z6 ?_)
   exact QW.join ⟨true, (Zi hq28).symm, rfl, rfl⟩ ⟨rfl, rfl, rfl, trivial⟩ (fun w m => m.pick [0, 1] 2 rfl rfl)
theorem waybilllaw17_sameLogs_does (w0 : World) (Φ : Ctx) (N : List Ent) (hΦ : ∀ w, Mem w0 w N → Φ w) (A0_ : Option Addr) (c0_ : Nat) (cs0_ : List Value) (a0 : List (Log)) (A1_ : Option Addr) (c1_ : Nat) (cs1_ : List Value) (a1 : List (Log)) (res0 : Bool) (va0 : View Φ A0_ a0.length c0_ 22 cs0_) (ha0 : Reps (LogRd Φ) cs0_ a0) (va1 : View Φ A1_ a1.length c1_ 22 cs1_) (ha1 : Reps (LogRd Φ) cs1_ a1) (hf : waybilllaw17_sameLogs a0 a1 = some res0) : DoesG Tryd.prog 45 [.slice A0_ a0.length c0_, .slice A1_ a1.length c1_] w0 [] N (fun v G => v = .bool res0) := by
 unfold waybilllaw17_sameLogs at hf
 replace va0 := va0.mono (Ψ := More w0 Φ []) (fun w q => q.1)
 replace va1 := va1.mono (Ψ := More w0 Φ []) (fun w q => q.1)
 replace ha0 := ha0.mono (LogRd.mono (Ψ := More w0 Φ []) (fun w q => q.1))
 replace ha1 := ha1.mono (LogRd.mono (Ψ := More w0 Φ []) (fun w q => q.1))
 have m1 := va0.mx
 have m2 := va1.mx
 refine DoesG.enter Tryd.func45 rfl Tryd.ntmps45 rfl (M := (([] ++ N))) rfl (Z4 (Z2 (Z0 (Z5 rfl) rfl (Z6 (Z1 (Z4 (Z4 (Z2 (Z0 (Z3 rfl) rfl (Z0 (RV.len rfl rfl) rfl (Z0 (Z3 rfl) rfl (Z0 (RV.len rfl rfl) rfl ?_))))))))))))
 refine Z0 (RV.neq rfl rfl) rfl (Z7 (.bool (!decide (a0.length = a1.length))) (congrArg (fun b => Value.bool (!b)) (decide_eq_decide.2 (by omega))) (Z6 (Z1 ?_)))
 by_cases h3 : a0.length = a1.length
 ·replace hf := if_t hf h3
  refine Z14 rfl (congrArg (fun b => !b) (decide_eq_true h3)) (CW.skip (Z1 (Z4 (Z4 (Z2 (Z0 (Z5 rfl) rfl (Z6 (Z1 ?_))))))))
  obtain ⟨q4, hq5, hf⟩ := Z101 hf
  refine Z116 (fun L' M' => q4 = Lp.go () ∧ L' = [] ∧ M' = (([] ++ N))) ?_ ?_
  ·rintro L7 M8 ⟨e6, e9, e10⟩
   rw [e9, e10]
   clear e9 e10 L7 M8
   clear hq5
   rw [e6] at hf
   clear e6
   try dsimp only at hf
   refine Z1 (Z4 (Z2 (Z0 (Z5 rfl) rfl (Z6 (Z1 (CW.ret ?_))))))
   have e0 := Zi hf
   subst e0
   refine Z111 (rs := [.tmp 4]) ([.bool true]) ([]) rfl ?_ rfl ?_ ?_ _ (.inl rfl)
   ·exact ⟨rfl, trivial⟩
   ·exact rfl
   ·exact (fun w m => m)
  ·skip
   refine CW.block (Z114 (fun k L' M' => ∃ n11 : Nat, (waybilllaw17_sameLogs.l1 a0 a1 k n11) = some q4 ∧ (n11 ≤ 9223372036854775807) ∧ L' = [(0, .slice A0_ a0.length c0_), (1, .slice A1_ a1.length c1_), (5, .int .i64 ((n11 : Nat) : Int))] ∧ M' = (([] ++ N))) (k0 := (a0.length - 0 + 2)) ⟨0, hq5, (by omega), rfl, rfl⟩ ⟨rfl, rfl, rfl, trivial⟩ (fun w m => m.pick [] 0 rfl rfl) ?_)
   clear hq5
   rintro k13 L16 M17 ⟨n11, hl14, b12, e18, e19⟩
   rw [e18, e19]
   clear e18 e19 L16 M17
   rcases k13 with _ | k13
   ·rw [waybilllaw17_sameLogs.l1] at hl14; cases hl14
   rw [waybilllaw17_sameLogs.l1] at hl14
   refine Z4 (Z4 (Z2 (Z0 (Z3 rfl) rfl (Z0 (Z3 rfl) rfl (Z0 (RV.len rfl rfl) rfl (Z0 (RV.lss rfl rfl) rfl (Z7 (.bool (decide (n11 < a0.length))) (congrArg Value.bool (decide_eq_decide.2 (by omega))) (Z6 (Z1 ?_)))))))))
   by_cases h20 : n11 < a0.length
   ·replace hl14 := if_t hl14 h20
    refine Z13 rfl (decide_eq_true h20) (CW.skip (Z1 (Z4 (CW.block (Z4 (CW.drawsU 10 mixed (by kernel_rfl) rfl (Z18 0 rfl (by kernel_rfl) rfl (Z3 rfl) rfl (Z18 1 rfl (by kernel_rfl) rfl (Z3 rfl) rfl ?_))))))))
    obtain ⟨x21, hx22, hl14⟩ := Z101 hl14
    have hl23 := Z110 hx22
    refine Z18 2 rfl (by kernel_rfl) rfl (Z103 (n11) rfl rfl rfl rfl rfl (va0.isSome (by decide) hl23) (by omega)) rfl ?_
    obtain ⟨cs24, h25, h26⟩ := ha0.get LogRd.len hx22
    have h36 := h25
    obtain ⟨A27, c28, cs30, A32, c33, e35, v29, h31, v34⟩ := LogRd.opn h25
    subst e35
    have m37 := v29.mx
    have m38 := v34.mx
    refine Z18 3 rfl (by kernel_rfl) rfl (Z104 rfl rfl rfl rfl (fun w m => va0.load (Z113 hΦ 0 m rfl) h26) (LogC.C_length _)) rfl (Z18 4 rfl (by kernel_rfl) rfl (Z3 rfl) rfl (Z18 5 rfl (by kernel_rfl) rfl (Z3 rfl) rfl ?_))
    obtain ⟨x39, hx40, hl14⟩ := Z101 hl14
    have hl41 := Z110 hx40
    refine Z18 6 rfl (by kernel_rfl) rfl (Z103 (n11) rfl rfl rfl rfl rfl (va1.isSome (by decide) hl41) (by omega)) rfl ?_
    obtain ⟨cs42, h43, h44⟩ := ha1.get LogRd.len hx40
    have h54 := h43
    obtain ⟨A45, c46, cs48, A50, c51, e53, v47, h49, v52⟩ := LogRd.opn h43
    subst e53
    have m55 := v47.mx
    have m56 := v52.mx
    refine Z18 7 rfl (by kernel_rfl) rfl (Z104 rfl rfl rfl rfl (fun w m => va1.load (Z113 hΦ 0 m rfl) h44) (LogC.C_length _)) rfl ?_
    obtain ⟨x58, hx57, hl14⟩ := Z101 hl14
    refine Z25 8 rfl (by kernel_rfl) rfl Tryd.call76 rfl (fun N' hN' => waybilllaw17_sameLog_does w0 (More w0 Φ []) N' (fun w m => Z113 hΦ 0 (hN' w m) rfl) (⟨x21.address, .slice A27 x21.topics.length c28, .slice A32 x21.data.length c33⟩ : LogC).C x21 (⟨x39.address, .slice A45 x39.topics.length c46, .slice A50 x39.data.length c51⟩ : LogC).C x39 x58 h36 h54 hx57) rfl ?_
    rintro _ G59 rfl
    refine UW.mem (M' := (([] ++ N))) (fun w m => m.appR) (Z18 9 rfl (by kernel_rfl) rfl (Z5 rfl) rfl (UW.nil (by kernel_rfl) (Z6 (Z1 (Z4 (Z2 (Z0 (Z3 rfl) rfl (Z0 (RV.not rfl) rfl (Z6 (Z1 ?_))))))))))
    by_cases h61 : x58 = true
    ·replace hl14 := if_t hl14 h61
     refine Z14 rfl (congrArg (fun b => !b) (h61)) (CW.skip (Z27 (Z1 (Z2 (Z0 (Z3 rfl) rfl (Z0 (RV.add rfl rfl (by omega)) rfl (Z7 (.int .i64 (((n11 + 1) : Nat) : Int)) (by first | rfl | (congr 1) | (congr 1; omega)) (Z0 (Z5 rfl) rfl (Z6 ?_)))))))))
     exact Z106 (k' := k13) (Nat.lt_succ_self _) ⟨(n11 + 1), hl14, (by omega), rfl, rfl⟩ ⟨rfl, rfl, rfl, trivial⟩ (fun w m => m.pick [] 0 rfl rfl)
    ·replace hl14 := if_f hl14 h61
     refine Z13 rfl (congrArg (fun b => !b) (Bool.eq_false_iff.2 h61)) (Z4 (Z2 (Z0 (Z5 rfl) rfl (Z6 (Z1 (CW.ret (Z16 (Z8 (Z8 (Z16 (Z8 ?_)))))))))))
     have hc := Zi hl14
     subst hc
     try dsimp only at hf
     refine Z8 ?_
     have e0 := Zi hf
     subst e0
     refine Z111 (rs := [.tmp 4]) ([.bool false]) ([]) rfl ?_ rfl ?_ ?_ _ (.inl rfl)
     ·exact ⟨rfl, trivial⟩
     ·exact rfl
     ·exact (fun w m => m)
   ·replace hl14 := if_f hl14 h20
    refine Z14 rfl (decide_eq_false h20) (CW.exit (Z9 (Z9 (Z15 ?_))))
    exact QW.join ⟨(Zi hl14).symm, rfl, rfl⟩ trivial (fun w m => m.pick [] 0 rfl rfl)
 ·replace hf := if_f hf h3
  refine Z13 rfl (congrArg (fun b => !b) (decide_eq_false h3)) (Z4 (Z2 (Z0 (Z5 rfl) rfl (Z6 (Z1 (CW.ret (Z8 ?_)))))))
  have e0 := Zi hf
  subst e0
  refine Z111 (rs := [.tmp 4]) ([.bool false]) ([]) rfl ?_ rfl ?_ ?_ _ (.inl rfl)
  ·exact ⟨rfl, trivial⟩
  ·exact rfl
  ·exact (fun w m => m)
theorem waybillref17_takes_does (w0 : World) (Φ : Ctx) (N : List Ent) (hΦ : ∀ w, Mem w0 w N → Φ w) (cs0_ : List Value) (a0 : Log) (A1_ : Option Addr) (c1_ : Nat) (cs1_ : List Value) (a1 : List (Vector (BitVec 8) 20)) (A2_ : Option Addr) (c2_ : Nat) (cs2_ : List Value) (a2 : List (List (Vector (BitVec 8) 32))) (res0 : Bool) (ha0 : LogRd Φ cs0_ a0) (va1 : View Φ A1_ a1.length c1_ 20 cs1_) (ha1 : Reps (Ar8Rd Φ) cs1_ a1) (va2 : View Φ A2_ a2.length c2_ 1 cs2_) (ha2 : Reps (HsRd Φ) cs2_ a2) (hf : waybillref17_takes a0 a1 a2 = some res0) : DoesG Tryd.prog 49 [.agg cs0_.toArray, .slice A1_ a1.length c1_, .slice A2_ a2.length c2_] w0 [] N (fun v G => v = .bool res0) := by
 unfold waybillref17_takes at hf
 replace va1 := va1.mono (Ψ := More w0 Φ []) (fun w q => q.1)
 replace va2 := va2.mono (Ψ := More w0 Φ []) (fun w q => q.1)
 replace ha1 := ha1.mono (Ar8Rd.mono (Ψ := More w0 Φ []) (fun w q => q.1))
 replace ha2 := ha2.mono (HsRd.mono (Ψ := More w0 Φ []) (fun w q => q.1))
 replace ha0 := LogRd.mono (Ψ := More w0 Φ []) (fun w q => q.1) _ _ ha0
 have h10 := ha0
 obtain ⟨A1, c2, cs4, A6, c7, e9, v3, h5, v8⟩ := LogRd.opn ha0
 subst e9
 have m11 := v3.mx
 have m12 := v8.mx
 have m13 := va1.mx
 have m14 := va2.mx
 refine DoesG.enter Tryd.func49 rfl Tryd.ntmps49 rfl (M := (([] ++ N))) rfl (Z4 (Z2 (OW.boxA rfl rfl (fun b15 => (Z0 (Z5 rfl) rfl (Z6 (Z1 (Z4 (Z2 (Z0 (Z3 rfl) rfl (Z0 (RV.len rfl rfl) rfl (Z0 (RV.eql rfl rfl) rfl ?_))))))))))))
 refine Z7 (.bool (decide (a1.length = 0))) (congrArg Value.bool (decide_eq_decide.2 (by omega))) (Z0 (Z5 rfl) rfl (Z6 (Z1 (Z4 (Z4 (Z2 (Z0 (Z5 rfl) rfl (Z6 (Z1 ?_)))))))))
 obtain ⟨q16, hq17, hf⟩ := Z101 hf
 refine Z116 (fun L' M' => ∃ p18 : Bool, q16 = p18 ∧ L' = [(2, .slice A2_ a2.length c2_), (3, ptr (some b15) 0), (7, .bool (p18))] ∧ M' = ((some b15, blk (⟨a0.address, .slice A1 a0.topics.length c2, .slice A6 a0.data.length c7⟩ : LogC).C 63) :: ([] ++ N))) ?_ ?_
 ·rintro L20 M21 ⟨p18, e19, e22, e23⟩
  rw [e22, e23]
  clear e22 e23 L20 M21
  clear hq17
  rw [e19] at hf
  clear e19
  try dsimp only at hf
  refine Z1 (Z4 (Z4 ?_))
  obtain ⟨q24, hq25, hf⟩ := Z101 hf
  refine Z116 (fun L' M' => ∃ p26 : Bool, q24 = p26 ∧ L' = [(2, .slice A2_ a2.length c2_), (3, ptr (some b15) 0), (40, .bool (p26))] ∧ M' = ((some b15, blk (⟨a0.address, .slice A1 a0.topics.length c2, .slice A6 a0.data.length c7⟩ : LogC).C 63) :: ([] ++ N))) ?_ ?_
  ·rintro L28 M29 ⟨p26, e27, e30, e31⟩
   rw [e30, e31]
   clear e30 e31 L28 M29
   clear hq25
   rw [e27] at hf
   clear e27
   try dsimp only at hf
   refine Z1 ?_
   by_cases h32 : p26 = true
   ·replace hf := if_t hf h32
    refine Z13 rfl (h32) (Z4 (Z2 (Z0 (Z5 rfl) rfl (Z6 (Z1 (CW.ret (Z8 ?_)))))))
    have e0 := Zi hf
    subst e0
    refine Z111 (rs := [.tmp 6]) ([.bool false]) ((some b15, blk (⟨a0.address, .slice A1 a0.topics.length c2, .slice A6 a0.data.length c7⟩ : LogC).C 63) :: []) rfl ?_ rfl ?_ ?_ _ (.inl rfl)
    ·exact ⟨rfl, trivial⟩
    ·exact rfl
    ·exact (fun w m => m)
   ·replace hf := if_f hf h32
    refine Z14 rfl (Bool.eq_false_iff.2 h32) (CW.skip (Z1 (Z4 (Z4 (Z2 (Z0 (Z5 rfl) rfl (Z6 (Z1 ?_))))))))
    obtain ⟨q33, hq34, hf⟩ := Z101 hf
    refine Z116 (fun L' M' => q33 = Lp.go () ∧ L' = [] ∧ M' = (([] ++ N))) ?_ ?_
    ·rintro L36 M37 ⟨e35, e38, e39⟩
     rw [e38, e39]
     clear e38 e39 L36 M37
     clear hq34
     rw [e35] at hf
     clear e35
     try dsimp only at hf
     refine Z1 (Z4 (Z2 (Z0 (Z5 rfl) rfl (Z6 (Z1 (CW.ret ?_))))))
     have e0 := Zi hf
     subst e0
     refine Z111 (rs := [.tmp 6]) ([.bool true]) ([]) rfl ?_ rfl ?_ ?_ _ (.inl rfl)
     ·exact ⟨rfl, trivial⟩
     ·exact rfl
     ·exact (fun w m => m)
    ·skip
     refine CW.block (Z114 (fun k L' M' => ∃ n40 : Nat, (waybillref17_takes.l1 a0 a2 k n40) = some q33 ∧ (n40 ≤ 9223372036854775807) ∧ L' = [(2, .slice A2_ a2.length c2_), (3, ptr (some b15) 0), (9, .int .i64 ((n40 : Nat) : Int))] ∧ M' = ((some b15, blk (⟨a0.address, .slice A1 a0.topics.length c2, .slice A6 a0.data.length c7⟩ : LogC).C 63) :: ([] ++ N))) (k0 := (a2.length - 0 + 2)) ⟨0, hq34, (by omega), rfl, rfl⟩ ⟨rfl, rfl, rfl, trivial⟩ (fun w m => m.pick [0] 1 rfl rfl) ?_)
     clear hq34
     rintro k42 L45 M46 ⟨n40, hl43, b41, e47, e48⟩
     rw [e47, e48]
     clear e47 e48 L45 M46
     rcases k42 with _ | k42
     ·rw [waybillref17_takes.l1] at hl43; cases hl43
     rw [waybillref17_takes.l1] at hl43
     refine Z4 (Z4 (Z2 (Z0 (Z3 rfl) rfl (Z0 (Z3 rfl) rfl (Z0 (RV.len rfl rfl) rfl (Z0 (RV.lss rfl rfl) rfl (Z7 (.bool (decide (n40 < a2.length))) (congrArg Value.bool (decide_eq_decide.2 (by omega))) (Z6 (Z1 ?_)))))))))
     by_cases h49 : n40 < a2.length
     ·replace hl43 := if_t hl43 h49
      refine Z13 rfl (decide_eq_true h49) (CW.skip (Z1 (Z4 (CW.block (Z4 (Z2 (Z0 (Z3 rfl) rfl (Z0 (Z3 rfl) rfl ?_))))))))
      obtain ⟨x50, hx51, hl43⟩ := Z101 hl43
      have hl52 := Z110 hx51
      refine Z0 (Z119 (n40) rfl rfl rfl rfl rfl (va2.isSome (by decide) hl52) (by omega)) rfl ?_
      obtain ⟨cs53, h54, h55⟩ := ha2.get HsRd.len hx51
      obtain ⟨A56, c57, cs58, e61, v59, h60⟩ := h54
      subst e61
      have m62 := v59.mx
      refine Z0 (Z21 rfl rfl rfl (fun w m => by have := va2.load (Z113 hΦ 1 m rfl) h55 0 _ rfl; simpa [Addr.add] using this)) rfl ?_
      refine Z0 (RV.len rfl rfl) rfl (Z0 (RV.eql rfl rfl) rfl (Z7 (.bool (decide (x50.length = 0))) (congrArg Value.bool (decide_eq_decide.2 (by omega))) (Z0 (Z5 rfl) rfl (Z6 (Z1 (Z4 (Z4 (Z2 (Z0 (Z5 rfl) rfl (Z6 (Z1 ?_)))))))))))
      obtain ⟨q63, hq64, hl43⟩ := Z101 hl43
      refine Z116 (fun L' M' => ∃ p65 : Bool, q63 = p65 ∧ L' = [(2, .slice A2_ a2.length c2_), (3, ptr (some b15) 0), (9, .int .i64 ((n40 : Nat) : Int)), (10, .bool (p65))] ∧ M' = ((some b15, blk (⟨a0.address, .slice A1 a0.topics.length c2, .slice A6 a0.data.length c7⟩ : LogC).C 63) :: ([] ++ N))) ?_ ?_
      ·rintro L67 M68 ⟨p65, e66, e69, e70⟩
       rw [e69, e70]
       clear e69 e70 L67 M68
       clear hq64
       rw [e66] at hl43
       clear e66
       try dsimp only at hl43
       refine Z1 (Z4 (Z2 (Z0 (Z3 rfl) rfl (Z0 (RV.not rfl) rfl (Z6 (Z1 ?_))))))
       by_cases h71 : p65 = true
       ·replace hl43 := if_t hl43 h71
        refine Z14 rfl (congrArg (fun b => !b) (h71)) (CW.skip (Z27 (Z1 (Z2 (Z0 (Z3 rfl) rfl (Z0 (RV.add rfl rfl (by omega)) rfl (Z7 (.int .i64 (((n40 + 1) : Nat) : Int)) (by first | rfl | (congr 1) | (congr 1; omega)) (Z0 (Z5 rfl) rfl (Z6 ?_)))))))))
        exact Z106 (k' := k42) (Nat.lt_succ_self _) ⟨(n40 + 1), hl43, (by omega), rfl, rfl⟩ ⟨rfl, rfl, rfl, trivial⟩ (fun w m => m.pick [0] 1 rfl rfl)
       ·replace hl43 := if_f hl43 h71
        refine Z13 rfl (congrArg (fun b => !b) (Bool.eq_false_iff.2 h71)) (Z4 (Z2 (Z0 (Z5 rfl) rfl (Z6 (Z1 (CW.ret (Z16 (Z8 (Z8 (Z16 (Z8 ?_)))))))))))
        have hc := Zi hl43
        subst hc
        try dsimp only at hf
        refine Z8 ?_
        have e0 := Zi hf
        subst e0
        refine Z111 (rs := [.tmp 6]) ([.bool false]) ((some b15, blk (⟨a0.address, .slice A1 a0.topics.length c2, .slice A6 a0.data.length c7⟩ : LogC).C 63) :: []) rfl ?_ rfl ?_ ?_ _ (.inl rfl)
        ·exact ⟨rfl, trivial⟩
        ·exact rfl
        ·exact (fun w m => m)
      ·skip
       refine CW.block (Z114 (fun k L' M' => ∃ p72 : Bool, ∃ n73 : Nat, (waybillref17_takes.l2 a0 a2 n40 k p72 n73) = some q63 ∧ (n73 ≤ 9223372036854775807) ∧ L' = [(2, .slice A2_ a2.length c2_), (3, ptr (some b15) 0), (9, .int .i64 ((n40 : Nat) : Int)), (10, .bool (p72)), (11, .int .i64 ((n73 : Nat) : Int))] ∧ M' = ((some b15, blk (⟨a0.address, .slice A1 a0.topics.length c2, .slice A6 a0.data.length c7⟩ : LogC).C 63) :: ([] ++ N))) (k0 := (((a2[n40]?)).elim 2 fun x77 => (x77.length - 0 + 2))) ⟨(decide (x50.length = 0)), 0, hq64, (by omega), rfl, rfl⟩ ⟨rfl, rfl, rfl, rfl, rfl, trivial⟩ (fun w m => m.pick [0] 1 rfl rfl) ?_)
       clear hq64
       rintro k75 L78 M79 ⟨p72, n73, hl76, b74, e80, e81⟩
       rw [e80, e81]
       clear e80 e81 L78 M79
       rcases k75 with _ | k75
       ·rw [waybillref17_takes.l2] at hl76; cases hl76
       rw [waybillref17_takes.l2] at hl76
       refine Z4 (Z4 (Z2 (Z0 (Z3 rfl) rfl (Z0 (Z3 rfl) rfl (Z0 (Z3 rfl) rfl ?_)))))
       obtain ⟨x82, hx83, hl76⟩ := Z101 hl76
       have hl84 := Z110 hx83
       refine Z0 (Z119 (n40) rfl rfl rfl rfl rfl (va2.isSome (by decide) hl84) (by omega)) rfl ?_
       obtain ⟨cs85, h86, h87⟩ := ha2.get HsRd.len hx83
       obtain ⟨A88, c89, cs90, e93, v91, h92⟩ := h86
       subst e93
       have m94 := v91.mx
       refine Z0 (Z21 rfl rfl rfl (fun w m => by have := va2.load (Z113 hΦ 1 m rfl) h87 0 _ rfl; simpa [Addr.add] using this)) rfl ?_
       refine Z0 (RV.len rfl rfl) rfl (Z0 (RV.lss rfl rfl) rfl (Z7 (.bool (decide (n73 < x82.length))) (congrArg Value.bool (decide_eq_decide.2 (by omega))) (Z6 (Z1 ?_))))
       by_cases h95 : n73 < x82.length
       ·replace hl76 := if_t hl76 h95
        refine Z13 rfl (decide_eq_true h95) (CW.skip (Z1 (Z4 (CW.block ?_))))
        obtain ⟨q96, hq97, hl76⟩ := Z101 hl76
        refine Z116 (fun L' M' => ∃ p98 : Bool, q96 = p98 ∧ L' = [(2, .slice A2_ a2.length c2_), (3, ptr (some b15) 0), (9, .int .i64 ((n40 : Nat) : Int)), (10, .bool (p98)), (11, .int .i64 ((n73 : Nat) : Int))] ∧ M' = ((some b15, blk (⟨a0.address, .slice A1 a0.topics.length c2, .slice A6 a0.data.length c7⟩ : LogC).C 63) :: ([] ++ N))) ?_ ?_
        ·rintro L100 M101 ⟨p98, e99, e102, e103⟩
         rw [e102, e103]
         clear e102 e103 L100 M101
         clear hq97
         rw [e99] at hl76
         clear e99
         try dsimp only at hl76
         refine Z27 (Z1 (Z2 (Z0 (Z3 rfl) rfl (Z0 (RV.add rfl rfl (by omega)) rfl (Z7 (.int .i64 (((n73 + 1) : Nat) : Int)) (by first | rfl | (congr 1) | (congr 1; omega)) (Z0 (Z5 rfl) rfl (Z6 ?_)))))))
         exact Z106 (k' := k75) (Nat.lt_succ_self _) ⟨(p98), (n73 + 1), hl76, (by omega), rfl, rfl⟩ ⟨rfl, rfl, rfl, rfl, rfl, trivial⟩ (fun w m => m.pick [0] 1 rfl rfl)
        ·skip
         refine CW.drawsU 17 mixed (by kernel_rfl) rfl (Z18 0 rfl (by kernel_rfl) rfl (Z3 rfl) rfl (Z18 1 rfl (by kernel_rfl) rfl (Z3 rfl) rfl ?_))
         by_cases h104 : p72 = true
         ·replace hq97 := if_t hq97 h104
          refine UW.slot (.bool true) (congrArg Value.bool (h104)) (UW.skip 2 rfl (by kernel_rfl) rfl rfl (UW.skip 3 rfl (by kernel_rfl) rfl rfl (UW.skip 4 rfl (by kernel_rfl) rfl rfl (UW.skip 5 rfl (by kernel_rfl) rfl rfl (UW.skip 6 rfl (by kernel_rfl) rfl rfl (UW.skip 7 rfl (by kernel_rfl) rfl rfl (UW.skip 8 rfl (by kernel_rfl) rfl rfl ?_)))))))
          refine UW.skip 9 rfl (by kernel_rfl) rfl rfl (UW.skip 10 rfl (by kernel_rfl) rfl rfl (UW.skip 11 rfl (by kernel_rfl) rfl rfl (UW.skip 12 rfl (by kernel_rfl) rfl rfl (UW.skip 13 rfl (by kernel_rfl) rfl rfl (UW.skip 14 rfl (by kernel_rfl) rfl rfl (Z18 15 rfl (by kernel_rfl) rfl (Z112 rfl rfl rfl) rfl (Z18 16 rfl (by kernel_rfl) rfl (Z5 rfl) rfl ?_)))))))
          refine UW.nil (by kernel_rfl) (Z6 ?_)
          exact QW.join ⟨true, (Zi hq97).symm, rfl, rfl⟩ ⟨rfl, rfl, rfl, rfl, rfl, trivial⟩ (fun w m => m.pick [0] 1 rfl rfl)
         ·replace hq97 := if_f hq97 h104
          refine UW.slot (.bool false) (congrArg Value.bool (Bool.eq_false_iff.2 h104)) (Z18 2 rfl (by kernel_rfl) rfl (Z3 rfl) rfl (Z18 3 rfl (by kernel_rfl) rfl (Z3 rfl) rfl ?_))
          obtain ⟨x105, hx106, hq97⟩ := Z101 hq97
          have hl107 := Z110 hx106
          refine Z18 4 rfl (by kernel_rfl) rfl (Z119 (n40) rfl rfl rfl rfl rfl (va2.isSome (by decide) hl107) (by omega)) rfl ?_
          obtain ⟨cs108, h109, h110⟩ := ha2.get HsRd.len hx106
          obtain ⟨A111, c112, cs113, e116, v114, h115⟩ := h109
          subst e116
          have m117 := v114.mx
          refine Z18 5 rfl (by kernel_rfl) rfl (Z21 rfl rfl rfl (fun w m => by have := va2.load (Z113 hΦ 1 m rfl) h110 0 _ rfl; simpa [Addr.add] using this)) rfl ?_
          refine Z18 6 rfl (by kernel_rfl) rfl (Z3 rfl) rfl ?_
          obtain ⟨x118, hx119, hq97⟩ := Z101 hq97
          have hl120 := Z110 hx119
          refine Z18 7 rfl (by kernel_rfl) rfl (Z103 (n73) rfl rfl rfl rfl rfl (v114.isSome (by decide) hl120) (by omega)) rfl ?_
          obtain ⟨cs121, h122, h123⟩ := h115.get Ar8Rd.len hx119
          have h122a := h122
          subst h122a
          refine Z18 8 rfl (by kernel_rfl) rfl (Z104 rfl rfl rfl rfl (fun w m => v114.load (Z113 hΦ 1 m rfl) h123) ((Z100 _).trans Zv)) rfl (Z18 9 rfl (by kernel_rfl) rfl (Z30 rfl rfl rfl rfl) rfl (UW.slot (ptr (some b15) 20) rfl (Z18 10 rfl (by kernel_rfl) rfl (Z29 rfl Zh rfl rfl rfl (Z105 (⟨a0.address, .slice A1 a0.topics.length c2, .slice A6 a0.data.length c7⟩ : LogC))) rfl (Z18 11 rfl (by kernel_rfl) rfl (Z3 rfl) rfl ?_))))
          obtain ⟨x124, hx125, hq97⟩ := Z101 hq97
          have hl126 := Z110 hx125
          refine Z18 12 rfl (by kernel_rfl) rfl (Z103 (n40) rfl rfl rfl rfl rfl (v3.isSome (by decide) hl126) (by omega)) rfl ?_
          obtain ⟨cs127, h128, h129⟩ := h5.get Ar8Rd.len hx125
          have h128a := h128
          subst h128a
          refine Z18 13 rfl (by kernel_rfl) rfl (Z104 rfl rfl rfl rfl (fun w m => v3.load (Z113 hΦ 1 m rfl) h129) ((Z100 _).trans Zv)) rfl (Z18 14 rfl (by kernel_rfl) rfl (RV.eqA8 rfl rfl rfl rfl rfl rfl (Zv) (Zv)) rfl (UW.slot (.bool (decide (x118 = x124))) (congrArg Value.bool (decide_eq_decide.2 Vector.toList_inj)) (Z18 15 rfl (by kernel_rfl) rfl (Z107 rfl rfl rfl) rfl (Z18 16 rfl (by kernel_rfl) rfl (Z5 rfl) rfl (UW.nil (by kernel_rfl) (Z6 ?_))))))
          exact QW.join ⟨(decide (x118 = x124)), (Zi hq97).symm, rfl, rfl⟩ ⟨rfl, rfl, rfl, rfl, rfl, trivial⟩ (fun w m => m.pick [0] 1 rfl rfl)
       ·replace hl76 := if_f hl76 h95
        refine Z14 rfl (decide_eq_false h95) (CW.exit (Z9 (Z9 (Z15 ?_))))
        exact QW.join ⟨(p72), (Zi hl76).symm, rfl, rfl⟩ ⟨rfl, rfl, rfl, rfl, trivial⟩ (fun w m => m.pick [0] 1 rfl rfl)
     ·replace hl43 := if_f hl43 h49
      refine Z14 rfl (decide_eq_false h49) (CW.exit (Z9 (Z9 (Z15 ?_))))
      exact QW.join ⟨(Zi hl43).symm, rfl, rfl⟩ trivial (fun w m => m.pick [] 1 rfl rfl)
  ·skip
   refine Z2 (Z0 (Z3 rfl) rfl (Z0 (RV.not rfl) rfl (Z0 (Z3 rfl) rfl ?_)))
   by_cases h130 : p18 = true
   ·replace hq25 := if_t hq25 h130
    refine Z7 (.bool false) (congrArg Value.bool (congrArg (fun b => !b) (h130))) (Z24 rfl (Z0 (Z30 rfl rfl rfl rfl) rfl (Z7 (ptr (some b15) 20) rfl (Z24 rfl (Z0 (Z29 rfl Zh rfl rfl rfl (Z105 (⟨a0.address, .slice A1 a0.topics.length c2, .slice A6 a0.data.length c7⟩ : LogC))) rfl (Z24 rfl (Z0 (RV.len rfl rfl) rfl ?_)))))))
    refine Z24 rfl (Z0 (Z3 rfl) rfl (Z24 rfl (Z0 (RV.len rfl rfl) rfl (Z24 rfl (Z0 (RV.lss rfl rfl) rfl (Z7 (.bool (decide (a0.topics.length < a2.length))) (congrArg Value.bool (decide_eq_decide.2 (by omega))) (Z0 (Z107 rfl rfl rfl) rfl ?_)))))))
    refine Z6 ?_
    exact QW.join ⟨(decide (a0.topics.length < a2.length)), (Zi hq25).symm, rfl, rfl⟩ ⟨rfl, rfl, rfl, trivial⟩ (fun w m => m.pick [0] 1 rfl rfl)
   ·replace hq25 := if_f hq25 h130
    refine Z7 (.bool true) (congrArg Value.bool (congrArg (fun b => !b) (Bool.eq_false_iff.2 h130))) (Z23 rfl rfl rfl (Z23 rfl rfl rfl (Z23 rfl rfl rfl (Z23 rfl rfl rfl (Z23 rfl rfl rfl (Z23 rfl rfl rfl (Z0 (Z112 rfl rfl rfl) rfl ?_)))))))
    refine Z6 ?_
    exact QW.join ⟨true, (Zi hq25).symm, rfl, rfl⟩ ⟨rfl, rfl, rfl, trivial⟩ (fun w m => m.pick [0] 1 rfl rfl)
 ·skip
  refine CW.block (Z114 (fun k L' M' => ∃ p131 : Bool, ∃ n132 : Nat, (waybillref17_takes.l3 a0 a1 k p131 n132) = some q16 ∧ (n132 ≤ 9223372036854775807) ∧ L' = [(1, .slice A1_ a1.length c1_), (2, .slice A2_ a2.length c2_), (3, ptr (some b15) 0), (7, .bool (p131)), (8, .int .i64 ((n132 : Nat) : Int))] ∧ M' = ((some b15, blk (⟨a0.address, .slice A1 a0.topics.length c2, .slice A6 a0.data.length c7⟩ : LogC).C 63) :: ([] ++ N))) (k0 := (a1.length - 0 + 2)) ⟨(decide (a1.length = 0)), 0, hq17, (by omega), rfl, rfl⟩ ⟨rfl, rfl, rfl, rfl, rfl, trivial⟩ (fun w m => m.pick [0] 1 rfl rfl) ?_)
  clear hq17
  rintro k134 L137 M138 ⟨p131, n132, hl135, b133, e139, e140⟩
  rw [e139, e140]
  clear e139 e140 L137 M138
  rcases k134 with _ | k134
  ·rw [waybillref17_takes.l3] at hl135; cases hl135
  rw [waybillref17_takes.l3] at hl135
  refine Z4 (Z4 (Z2 (Z0 (Z3 rfl) rfl (Z0 (Z3 rfl) rfl (Z0 (RV.len rfl rfl) rfl (Z0 (RV.lss rfl rfl) rfl (Z7 (.bool (decide (n132 < a1.length))) (congrArg Value.bool (decide_eq_decide.2 (by omega))) (Z6 (Z1 ?_)))))))))
  by_cases h141 : n132 < a1.length
  ·replace hl135 := if_t hl135 h141
   refine Z13 rfl (decide_eq_true h141) (CW.skip (Z1 (Z4 (CW.block ?_))))
   obtain ⟨q142, hq143, hl135⟩ := Z101 hl135
   refine Z116 (fun L' M' => ∃ p144 : Bool, q142 = p144 ∧ L' = [(1, .slice A1_ a1.length c1_), (2, .slice A2_ a2.length c2_), (3, ptr (some b15) 0), (7, .bool (p144)), (8, .int .i64 ((n132 : Nat) : Int))] ∧ M' = ((some b15, blk (⟨a0.address, .slice A1 a0.topics.length c2, .slice A6 a0.data.length c7⟩ : LogC).C 63) :: ([] ++ N))) ?_ ?_
   ·rintro L146 M147 ⟨p144, e145, e148, e149⟩
    rw [e148, e149]
    clear e148 e149 L146 M147
    clear hq143
    rw [e145] at hl135
    clear e145
    try dsimp only at hl135
    refine Z27 (Z1 (Z2 (Z0 (Z3 rfl) rfl (Z0 (RV.add rfl rfl (by omega)) rfl (Z7 (.int .i64 (((n132 + 1) : Nat) : Int)) (by first | rfl | (congr 1) | (congr 1; omega)) (Z0 (Z5 rfl) rfl (Z6 ?_)))))))
    exact Z106 (k' := k134) (Nat.lt_succ_self _) ⟨(p144), (n132 + 1), hl135, (by omega), rfl, rfl⟩ ⟨rfl, rfl, rfl, rfl, rfl, trivial⟩ (fun w m => m.pick [0] 1 rfl rfl)
   ·skip
    refine CW.drawsU 11 mixed (by kernel_rfl) rfl (Z18 0 rfl (by kernel_rfl) rfl (Z3 rfl) rfl (Z18 1 rfl (by kernel_rfl) rfl (Z3 rfl) rfl ?_))
    by_cases h150 : p131 = true
    ·replace hq143 := if_t hq143 h150
     refine UW.slot (.bool true) (congrArg Value.bool (h150)) (UW.skip 2 rfl (by kernel_rfl) rfl rfl (UW.skip 3 rfl (by kernel_rfl) rfl rfl (UW.skip 4 rfl (by kernel_rfl) rfl rfl (UW.skip 5 rfl (by kernel_rfl) rfl rfl (UW.skip 6 rfl (by kernel_rfl) rfl rfl (UW.skip 7 rfl (by kernel_rfl) rfl rfl (UW.skip 8 rfl (by kernel_rfl) rfl rfl ?_)))))))
     refine Z18 9 rfl (by kernel_rfl) rfl (Z112 rfl rfl rfl) rfl (Z18 10 rfl (by kernel_rfl) rfl (Z5 rfl) rfl (UW.nil (by kernel_rfl) (Z6 ?_)))
     exact QW.join ⟨true, (Zi hq143).symm, rfl, rfl⟩ ⟨rfl, rfl, rfl, rfl, rfl, trivial⟩ (fun w m => m.pick [0] 1 rfl rfl)
    ·replace hq143 := if_f hq143 h150
     refine UW.slot (.bool false) (congrArg Value.bool (Bool.eq_false_iff.2 h150)) (Z18 2 rfl (by kernel_rfl) rfl (Z3 rfl) rfl (Z18 3 rfl (by kernel_rfl) rfl (Z3 rfl) rfl ?_))
     obtain ⟨x151, hx152, hq143⟩ := Z101 hq143
     have hl153 := Z110 hx152
     refine Z18 4 rfl (by kernel_rfl) rfl (Z103 (n132) rfl rfl rfl rfl rfl (va1.isSome (by decide) hl153) (by omega)) rfl ?_
     obtain ⟨cs154, h155, h156⟩ := ha1.get Ar8Rd.len hx152
     have h155a := h155
     subst h155a
     refine Z18 5 rfl (by kernel_rfl) rfl (Z104 rfl rfl rfl rfl (fun w m => va1.load (Z113 hΦ 1 m rfl) h156) ((Z100 _).trans Zv)) rfl (Z18 6 rfl (by kernel_rfl) rfl (Z30 rfl rfl rfl rfl) rfl (UW.slot (ptr (some b15) 0) rfl (Z18 7 rfl (by kernel_rfl) rfl (RV.loadAo rfl Zh rfl rfl rfl rfl (Z109 (⟨a0.address, .slice A1 a0.topics.length c2, .slice A6 a0.data.length c7⟩ : LogC)) ((Z100 _).trans Zv)) rfl (Z18 8 rfl (by kernel_rfl) rfl (RV.eqA8 rfl rfl rfl rfl rfl rfl (Zv) (Zv)) rfl (UW.slot (.bool (decide (x151 = a0.address))) (congrArg Value.bool (decide_eq_decide.2 Vector.toList_inj)) (Z18 9 rfl (by kernel_rfl) rfl (Z107 rfl rfl rfl) rfl (Z18 10 rfl (by kernel_rfl) rfl (Z5 rfl) rfl ?_)))))))
     refine UW.nil (by kernel_rfl) (Z6 ?_)
     exact QW.join ⟨(decide (x151 = a0.address)), (Zi hq143).symm, rfl, rfl⟩ ⟨rfl, rfl, rfl, rfl, rfl, trivial⟩ (fun w m => m.pick [0] 1 rfl rfl)
  ·replace hl135 := if_f hl135 h141
   refine Z14 rfl (decide_eq_false h141) (CW.exit (Z9 (Z9 (Z15 ?_))))
   exact QW.join ⟨(p131), (Zi hl135).symm, rfl, rfl⟩ ⟨rfl, rfl, rfl, trivial⟩ (fun w m => m.pick [0] 1 rfl rfl)
theorem waybillref17_Find_does (w0 : World) (Φ : Ctx) (N : List Ent) (hΦ : ∀ w, Mem w0 w N → Φ w) (A0_ : Option Addr) (c0_ : Nat) (cs0_ : List Value) (a0 : List (Log)) (A1_ : Option Addr) (c1_ : Nat) (cs1_ : List Value) (a1 : List (Vector (BitVec 8) 20)) (A2_ : Option Addr) (c2_ : Nat) (cs2_ : List Value) (a2 : List (List (Vector (BitVec 8) 32))) (res0 : List (Int)) (va0 : View Φ A0_ a0.length c0_ 22 cs0_) (ha0 : Reps (LogRd Φ) cs0_ a0) (va1 : View Φ A1_ a1.length c1_ 20 cs1_) (ha1 : Reps (Ar8Rd Φ) cs1_ a1) (va2 : View Φ A2_ a2.length c2_ 1 cs2_) (ha2 : Reps (HsRd Φ) cs2_ a2) (hf : waybillref17_Find a0 a1 a2 = some res0) : DoesG Tryd.prog 22 [.slice A0_ a0.length c0_, .slice A1_ a1.length c1_, .slice A2_ a2.length c2_] w0 [] N (fun v G => ∃ B : List Ent, ∃ or0 : Option Nat, ∃ kr0 : Nat, ∃ rr0 : List Value, (OwnS or0 res0.length kr0 1 (i64s res0) rr0) ∧ v = sl or0 0 res0.length kr0 ∧ G = (or0, blk ((i64s res0) ++ rr0) 3) :: B) := by
 unfold waybillref17_Find at hf
 replace va0 := va0.mono (Ψ := More w0 Φ []) (fun w q => q.1)
 replace va1 := va1.mono (Ψ := More w0 Φ []) (fun w q => q.1)
 replace va2 := va2.mono (Ψ := More w0 Φ []) (fun w q => q.1)
 replace ha0 := ha0.mono (LogRd.mono (Ψ := More w0 Φ []) (fun w q => q.1))
 replace ha1 := ha1.mono (Ar8Rd.mono (Ψ := More w0 Φ []) (fun w q => q.1))
 replace ha2 := ha2.mono (HsRd.mono (Ψ := More w0 Φ []) (fun w q => q.1))
 have m1 := va0.mx
 have m2 := va1.mx
 have m3 := va2.mx
 refine DoesG.enter Tryd.func22 rfl Tryd.ntmps22 rfl (M := (([] ++ N))) rfl (Z4 (Z2 (Z0 (Z5 rfl) rfl (Z6 (Z1 (Z4 (Z2 (Z0 (Z5 rfl) rfl (Z6 (Z1 (Z4 (Z4 (Z2 (Z0 (Z5 rfl) rfl (Z6 (Z1 ?_))))))))))))))))
 obtain ⟨q4, hq5, hf⟩ := Z101 hf
 refine Z116 (fun L' M' => ∃ l6 : List (Int), ∃ ob7 : Option Nat, ∃ c8 : Nat, ∃ r9 : List Value, q4 = l6 ∧ (OwnS ob7 l6.length c8 1 (i64s l6) r9) ∧ L' = [(7, sl ob7 0 l6.length c8)] ∧ M' = ((ob7, blk ((i64s l6) ++ r9) 3) :: ([] ++ N))) ?_ ?_
 ·rintro L12 M13 ⟨l6, ob7, c8, r9, e11, o10, e14, e15⟩
  rw [e14, e15]
  clear e14 e15 L12 M13
  clear hq5
  rw [e11] at hf
  clear e11
  try dsimp only at hf
  have m16 := o10.mx
  refine Z1 (Z4 (Z2 (Z0 (Z3 rfl) rfl (Z0 (Z5 rfl) rfl (Z6 (Z1 (CW.ret ?_)))))))
  have e0 := Zi hf
  subst e0
  refine Z111 (rs := [.tmp 6]) ([sl ob7 0 l6.length c8]) ((ob7, blk ((i64s l6) ++ r9) 3) :: []) rfl ?_ rfl ?_ ?_ _ (.inl rfl)
  ·exact ⟨rfl, trivial⟩
  ·exact ⟨[], ob7, c8, r9, o10, rfl, rfl⟩
  ·exact (fun w m => m.pick [0] 1 rfl rfl)
 ·skip
  refine CW.block (CW.mem (M' := ((none, blk ((i64s ([] : List (Int))) ++ []) 3) :: ([] ++ N))) (fun w m => m.nil_ent _) (Z114 (fun k L' M' => ∃ l17 : List (Int), ∃ n22 : Nat, ∃ ob18 : Option Nat, ∃ c19 : Nat, ∃ r20 : List Value, (waybillref17_Find.l1 a0 a1 a2 k l17 n22) = some q4 ∧ (OwnS ob18 l17.length c19 1 (i64s l17) r20) ∧ (n22 ≤ 9223372036854775807) ∧ L' = [(0, .slice A0_ a0.length c0_), (1, .slice A1_ a1.length c1_), (2, .slice A2_ a2.length c2_), (7, sl ob18 0 l17.length c19), (8, .int .i64 ((n22 : Nat) : Int))] ∧ M' = ((ob18, blk ((i64s l17) ++ r20) 3) :: ([] ++ N))) (k0 := (a0.length - 0 + 2)) ⟨([] : List (Int)), 0, none, 0, [], hq5, OwnS.nil, (by omega), rfl, rfl⟩ ⟨rfl, rfl, rfl, rfl, rfl, trivial⟩ (fun w m => m.pick [0] 1 rfl rfl) ?_))
  clear hq5
  rintro k24 L27 M28 ⟨l17, n22, ob18, c19, r20, hl25, o21, b23, e29, e30⟩
  rw [e29, e30]
  clear e29 e30 L27 M28
  rcases k24 with _ | k24
  ·rw [waybillref17_Find.l1] at hl25; cases hl25
  rw [waybillref17_Find.l1] at hl25
  have m31 := o21.mx
  refine Z4 (Z4 (Z2 (Z0 (Z3 rfl) rfl (Z0 (Z3 rfl) rfl (Z0 (RV.len rfl rfl) rfl (Z0 (RV.lss rfl rfl) rfl (Z7 (.bool (decide (n22 < a0.length))) (congrArg Value.bool (decide_eq_decide.2 (by omega))) (Z6 (Z1 ?_)))))))))
  by_cases h32 : n22 < a0.length
  ·replace hl25 := if_t hl25 h32
   refine Z13 rfl (decide_eq_true h32) (CW.skip (Z1 (Z4 (CW.block (Z4 (Z2 (Z0 (Z3 rfl) rfl (Z0 (Z3 rfl) rfl ?_))))))))
   obtain ⟨x33, hx34, hl25⟩ := Z101 hl25
   have hl35 := Z110 hx34
   refine Z0 (Z103 (n22) rfl rfl rfl rfl rfl (va0.isSome (by decide) hl35) (by omega)) rfl ?_
   obtain ⟨cs36, h37, h38⟩ := ha0.get LogRd.len hx34
   have h48 := h37
   obtain ⟨A39, c40, cs42, A44, c45, e47, v41, h43, v46⟩ := LogRd.opn h37
   subst e47
   have m49 := v41.mx
   have m50 := v46.mx
   refine Z0 (Z104 rfl rfl rfl rfl (fun w m => va0.load (Z113 hΦ 1 m rfl) h38) (LogC.C_length _)) rfl (Z0 (Z3 rfl) rfl (Z0 (Z3 rfl) rfl ?_))
   obtain ⟨x52, hx51, hl25⟩ := Z101 hl25
   refine Z12 Tryd.call49 rfl (waybillref17_takes_does w0 (More w0 Φ []) ((ob18, blk ((i64s l17) ++ r20) 3) :: ([] ++ N)) (fun w m => Z113 hΦ 1 m rfl) (⟨x33.address, .slice A39 x33.topics.length c40, .slice A44 x33.data.length c45⟩ : LogC).C x33 A1_ c1_ cs1_ a1 A2_ c2_ cs2_ a2 x52 h48 va1 ha1 va2 ha2 hx51) rfl rfl ?_
   rintro _ G53 rfl
   refine Z20 (M' := ((ob18, blk ((i64s l17) ++ r20) 3) :: ([] ++ N))) (fun w m => m.appR) (Z0 (Z5 rfl) rfl (Z6 (Z1 (Z4 (Z2 (Z0 (Z3 rfl) rfl (Z6 (Z1 ?_))))))))
   obtain ⟨q55, hq56, hl25⟩ := Z101 hl25
   refine Z116 (fun L' M' => ∃ l57 : List (Int), ∃ ob58 : Option Nat, ∃ c59 : Nat, ∃ r60 : List Value, q55 = l57 ∧ (OwnS ob58 l57.length c59 1 (i64s l57) r60) ∧ L' = [(0, .slice A0_ a0.length c0_), (1, .slice A1_ a1.length c1_), (2, .slice A2_ a2.length c2_), (7, sl ob58 0 l57.length c59), (8, .int .i64 ((n22 : Nat) : Int))] ∧ M' = ((ob58, blk ((i64s l57) ++ r60) 3) :: ([] ++ N))) ?_ ?_
   ·rintro L63 M64 ⟨l57, ob58, c59, r60, e62, o61, e65, e66⟩
    rw [e65, e66]
    clear e65 e66 L63 M64
    clear hq56
    rw [e62] at hl25
    clear e62
    try dsimp only at hl25
    have m67 := o61.mx
    refine Z27 (Z1 (Z2 (Z0 (Z3 rfl) rfl (Z0 (RV.add rfl rfl (by omega)) rfl (Z7 (.int .i64 (((n22 + 1) : Nat) : Int)) (by first | rfl | (congr 1) | (congr 1; omega)) (Z0 (Z5 rfl) rfl (Z6 ?_)))))))
    exact Z106 (k' := k24) (Nat.lt_succ_self _) ⟨l57, (n22 + 1), ob58, c59, r60, hl25, o61, (by omega), rfl, rfl⟩ ⟨rfl, rfl, rfl, rfl, rfl, trivial⟩ (fun w m => m.pick [0] 1 rfl rfl)
   ·skip
    by_cases h68 : x52 = true
    ·replace hq56 := if_t hq56 h68
     refine Z13 rfl (h68) (Z2 (Z0 (Z3 rfl) rfl (Z0 (Z3 rfl) rfl (OW.ofN (NV.bs1 rfl rfl rfl rfl rfl rfl) rfl (fun b69 => (Z20 (M' := (((some b69), blk ((i64s ([n22] : List (Int))) ++ []) 3) :: (ob18, blk ((i64s l17) ++ r20) 3) :: ([] ++ N))) (fun w m => by first | exact m | simpa [i64s] using m) ?_))))))
     have o70 : OwnS (some b69) ([n22] : List (Int)).length 1 1 (i64s ([n22] : List (Int))) [] := ⟨by simp [i64s], by simp [i64s], (fun h => nomatch h), by simp⟩
     have mx_o70 := o70.mx
     refine Z7 (sl (some b69) 0 ([n22] : List (Int)).length 1) (rfl) (OW.rot1 ?_)
     obtain ⟨g71, hq56⟩ := some_if hq56
     refine OW.appendOwn (s := 1) rfl rfl rfl rfl rfl rfl o21 (fun w m => m.rd0 (List.Mem.tail _ Zh) (fun e => o70.nilc (by decide) e)) o70.n (i64s_one _) (o70.zeroO (by decide)) (by decide) (by decide) (by first | omega | (simp only [i3, List.length_nil]; omega)) rfl rfl ((l17 ++ ([n22] : List (Int))).length) (i64s (l17 ++ ([n22] : List (Int)))) (List.length_append ..).symm (i64s_app _ _) (fun ob72 r73 c74 o75 => ?_)
     have m76 := o75.mx
     refine Z0 (Z5 rfl) rfl (Z6 ?_)
     exact QW.join ⟨(l17 ++ ([n22] : List (Int))), ob72, c74, r73, (Zi hq56).symm, o75, rfl, rfl⟩ ⟨rfl, rfl, rfl, rfl, rfl, trivial⟩ (fun w m => m.pick [0] 2 rfl rfl)
    ·replace hq56 := if_f hq56 h68
     refine Z14 rfl (Bool.eq_false_iff.2 h68) (CW.skip ?_)
     exact QW.join ⟨l17, ob18, c19, r20, (Zi hq56).symm, o21, rfl, rfl⟩ ⟨rfl, rfl, rfl, rfl, rfl, trivial⟩ (fun w m => m.pick [0] 1 rfl rfl)
  ·replace hl25 := if_f hl25 h32
   refine Z14 rfl (decide_eq_false h32) (CW.exit (Z9 (Z9 (Z15 ?_))))
   exact QW.join ⟨l17, ob18, c19, r20, (Zi hl25).symm, o21, rfl, rfl⟩ ⟨rfl, trivial⟩ (fun w m => m.pick [0] 1 rfl rfl)
theorem waybilllaw17_still_does (w0 : World) (Φ : Ctx) (N : List Ent) (hΦ : ∀ w, Mem w0 w N → Φ w) (A0_ : Option Addr) (c0_ : Nat) (a0 : List (BitVec 8)) (A1_ : Option Addr) (c1_ : Nat) (a1 : List (BitVec 8)) (res0 : Bool) (va0 : View Φ A0_ (a0 ++ List.replicate 70 195#8).length c0_ 1 (u8s (a0 ++ List.replicate 70 195#8))) (va1 : View Φ A1_ a1.length c1_ 1 (u8s a1)) (hf : waybilllaw17_still a0 a1 = some res0) : DoesG Tryd.prog 41 [.slice A0_ a0.length c0_, .slice A1_ a1.length c1_] w0 [] N (fun v G => v = .bool res0) := by
 unfold waybilllaw17_still at hf
 replace va0 := va0.mono (Ψ := More w0 Φ []) (fun w q => q.1)
 replace va1 := va1.mono (Ψ := More w0 Φ []) (fun w q => q.1)
 have hle := va0.mx
 have hle2 : (a0 ++ List.replicate 70 195#8).length = a0.length + 70 := by rw [List.length_append, List.length_replicate]
 have v1 : View (More w0 Φ []) A0_ a0.length c0_ 1 (u8s a0) := MRoom.view va0
 have m2 := v1.mx
 have m3 := va1.mx
 refine DoesG.enter Tryd.func41 rfl Tryd.ntmps41 rfl (M := (([] ++ N))) rfl (Z4 (Z2 (Z0 (Z5 rfl) rfl (Z6 (Z1 (Z4 (Z4 (Z2 (Z0 (Z3 rfl) rfl (Z0 (RV.len rfl rfl) rfl (Z0 (Z3 rfl) rfl (Z0 (RV.len rfl rfl) rfl ?_))))))))))))
 refine Z0 (RV.neq rfl rfl) rfl (Z7 (.bool (!decide (a0.length = a1.length))) (congrArg (fun b => Value.bool (!b)) (decide_eq_decide.2 (by omega))) (Z6 (Z1 ?_)))
 by_cases h4 : a0.length = a1.length
 ·replace hf := if_t hf h4
  refine Z14 rfl (congrArg (fun b => !b) (decide_eq_true h4)) (CW.skip (Z1 (Z4 (Z2 (Z0 (Z3 rfl) rfl (Z0 (Z3 rfl) rfl (Z0 (RV.len rfl rfl) rfl (Z0 (RV.add rfl rfl (by omega)) rfl (Z7 (.int .i64 (((a1.length + 70) : Nat) : Int)) (by first | rfl | (congr 1) | (congr 1; omega)) ?_)))))))))
  obtain ⟨g6, hf⟩ := some_if hf
  have hle := va0.le
  have hlen_ : (a0 ++ List.replicate 70 195#8).length = (a0 ++ List.replicate 70 195#8).length := rfl
  refine Z0 (RV.cut_hi ((a1.length + 70)) rfl rfl (by omega) rfl rfl (by omega)) rfl (Z7 (.slice A0_ ((a0 ++ List.replicate 70 195#8).take (a1.length + 70)).length c0_) (by rw [show (((a0 ++ List.replicate 70 195#8).take (a1.length + 70))).length = (a1.length + 70) from List.length_take.trans (Nat.min_eq_left (by omega))]) ?_)
  have v5 : View (More w0 Φ []) A0_ ((a0 ++ List.replicate 70 195#8).take (a1.length + 70)).length c0_ 1 (u8s ((a0 ++ List.replicate 70 195#8).take (a1.length + 70))) := va0.hi8 (by omega)
  have m7 := v5.mx
  refine Z0 (Z5 rfl) rfl (Z6 (Z1 (Z4 (Z4 (Z2 (Z0 (Z5 rfl) rfl (Z6 (Z1 ?_))))))))
  obtain ⟨q8, hq9, hf⟩ := Z101 hf
  refine Z116 (fun L' M' => q8 = Lp.go () ∧ L' = [] ∧ M' = (([] ++ N))) ?_ ?_
  ·rintro L11 M12 ⟨e10, e13, e14⟩
   rw [e13, e14]
   clear e13 e14 L11 M12
   clear hq9
   rw [e10] at hf
   clear e10
   try dsimp only at hf
   refine Z1 (Z4 (Z2 (Z0 (Z5 rfl) rfl (Z6 (Z1 (CW.ret ?_))))))
   have e0 := Zi hf
   subst e0
   refine Z111 (rs := [.tmp 4]) ([.bool true]) ([]) rfl ?_ rfl ?_ ?_ _ (.inl rfl)
   ·exact ⟨rfl, trivial⟩
   ·exact rfl
   ·exact (fun w m => m)
  ·skip
   refine CW.block (Z114 (fun k L' M' => ∃ n15 : Nat, (waybilllaw17_still.l1 a0 a1 k n15) = some q8 ∧ (n15 ≤ 9223372036854775807) ∧ L' = [(1, .slice A1_ a1.length c1_), (5, .slice A0_ ((a0 ++ List.replicate 70 195#8).take (a1.length + 70)).length c0_), (6, .int .i64 ((n15 : Nat) : Int))] ∧ M' = (([] ++ N))) (k0 := ((((a0 ++ List.replicate 70 195#8).take (a1.length + 70)).length) - 0 + 2)) ⟨0, hq9, (by omega), rfl, rfl⟩ ⟨rfl, rfl, rfl, trivial⟩ (fun w m => m.pick [] 0 rfl rfl) ?_)
   clear hq9
   rintro k17 L20 M21 ⟨n15, hl18, b16, e22, e23⟩
   rw [e22, e23]
   clear e22 e23 L20 M21
   rcases k17 with _ | k17
   ·rw [waybilllaw17_still.l1] at hl18; cases hl18
   rw [waybilllaw17_still.l1] at hl18
   refine Z4 (Z4 (Z2 (Z0 (Z3 rfl) rfl (Z0 (Z3 rfl) rfl (Z0 (RV.len rfl rfl) rfl (Z0 (RV.lss rfl rfl) rfl (Z7 (.bool (decide (n15 < ((a0 ++ List.replicate 70 195#8).take (a1.length + 70)).length))) (congrArg Value.bool (decide_eq_decide.2 (by omega))) (Z6 (Z1 ?_)))))))))
   by_cases h24 : n15 < ((a0 ++ List.replicate 70 195#8).take (a1.length + 70)).length
   ·replace hl18 := if_t hl18 h24
    refine Z13 rfl (decide_eq_true h24) (CW.skip (Z1 (Z4 (CW.block (Z4 ?_)))))
    obtain ⟨q25, hq26, hl18⟩ := Z101 hl18
    refine Z116 (fun L' M' => ∃ p27 : Bool, q25 = p27 ∧ L' = [(1, .slice A1_ a1.length c1_), (5, .slice A0_ ((a0 ++ List.replicate 70 195#8).take (a1.length + 70)).length c0_), (6, .int .i64 ((n15 : Nat) : Int)), (50, .bool (p27))] ∧ M' = (([] ++ N))) ?_ ?_
    ·rintro L29 M30 ⟨p27, e28, e31, e32⟩
     rw [e31, e32]
     clear e31 e32 L29 M30
     clear hq26
     rw [e28] at hl18
     clear e28
     try dsimp only at hl18
     refine Z1 ?_
     by_cases h33 : p27 = true
     ·replace hl18 := if_t hl18 h33
      refine Z13 rfl (h33) (Z4 (Z2 (Z0 (Z5 rfl) rfl (Z6 (Z1 (CW.ret (Z16 (Z8 (Z8 (Z16 (Z8 ?_)))))))))))
      have hc := Zi hl18
      subst hc
      try dsimp only at hf
      refine Z8 ?_
      have e0 := Zi hf
      subst e0
      refine Z111 (rs := [.tmp 4]) ([.bool false]) ([]) rfl ?_ rfl ?_ ?_ _ (.inl rfl)
      ·exact ⟨rfl, trivial⟩
      ·exact rfl
      ·exact (fun w m => m)
     ·replace hl18 := if_f hl18 h33
      refine Z14 rfl (Bool.eq_false_iff.2 h33) (CW.skip (Z27 (Z1 (Z2 (Z0 (Z3 rfl) rfl (Z0 (RV.add rfl rfl (by omega)) rfl (Z7 (.int .i64 (((n15 + 1) : Nat) : Int)) (by first | rfl | (congr 1) | (congr 1; omega)) (Z0 (Z5 rfl) rfl (Z6 ?_)))))))))
      exact Z106 (k' := k17) (Nat.lt_succ_self _) ⟨(n15 + 1), hl18, (by omega), rfl, rfl⟩ ⟨rfl, rfl, rfl, trivial⟩ (fun w m => m.pick [] 0 rfl rfl)
    ·skip
     refine CW.drawsU 28 mixed (by kernel_rfl) rfl (Z18 0 rfl (by kernel_rfl) rfl (Z3 rfl) rfl (Z18 1 rfl (by kernel_rfl) rfl (Z3 rfl) rfl (Z18 2 rfl (by kernel_rfl) rfl (RV.len rfl rfl) rfl (Z18 3 rfl (by kernel_rfl) rfl (RV.lss rfl rfl) rfl (UW.slot (.bool (decide (n15 < a1.length))) (congrArg Value.bool (decide_eq_decide.2 (by omega))) (Z18 4 rfl (by kernel_rfl) rfl (Z3 rfl) rfl ?_))))))
     by_cases h34 : n15 < a1.length
     ·replace hq26 := if_t hq26 h34
      refine UW.slot (.bool true) (congrArg Value.bool (decide_eq_true h34)) (Z18 5 rfl (by kernel_rfl) rfl (Z3 rfl) rfl (Z18 6 rfl (by kernel_rfl) rfl (Z3 rfl) rfl ?_))
      obtain ⟨x35, hx36, hq26⟩ := Z101 hq26
      have hl37 := Z110 hx36
      refine Z18 7 rfl (by kernel_rfl) rfl (Z119 (n15) rfl rfl rfl rfl rfl (v5.isSome (by decide) hl37) (by omega)) rfl (Z18 8 rfl (by kernel_rfl) rfl (Z21 rfl rfl rfl (fun w m => v5.cell (Z113 hΦ 0 m rfl) (u8s_at hx36))) rfl (Z18 9 rfl (by kernel_rfl) rfl (Z3 rfl) rfl (Z18 10 rfl (by kernel_rfl) rfl (Z3 rfl) rfl ?_)))
      obtain ⟨x38, hx39, hq26⟩ := Z101 hq26
      have hl40 := Z110 hx39
      refine Z18 11 rfl (by kernel_rfl) rfl (Z119 (n15) rfl rfl rfl rfl rfl (va1.isSome (by decide) hl40) (by omega)) rfl (Z18 12 rfl (by kernel_rfl) rfl (Z21 rfl rfl rfl (fun w m => va1.cell (Z113 hΦ 0 m rfl) (u8s_at hx39))) rfl (Z18 13 rfl (by kernel_rfl) rfl (RV.neq8 rfl (by first | rfl | exact lit8 _ rfl) rfl (by first | rfl | exact lit8 _ rfl)) rfl (Z18 14 rfl (by kernel_rfl) rfl (Z112 rfl rfl rfl) rfl (Z18 15 rfl (by kernel_rfl) rfl (Z3 rfl) rfl ?_))))
      by_cases h41 : x35 = x38
      ·replace hq26 := if_t hq26 h41
       refine UW.slot (.bool false) (congrArg Value.bool (congrArg (fun b => !b) (decide_eq_true h41))) (Z18 16 rfl (by kernel_rfl) rfl (Z3 rfl) rfl (Z18 17 rfl (by kernel_rfl) rfl (Z3 rfl) rfl (Z18 18 rfl (by kernel_rfl) rfl (RV.len rfl rfl) rfl (Z18 19 rfl (by kernel_rfl) rfl (RV.geq rfl rfl) rfl (UW.slot (.bool (decide (a1.length ≤ n15))) (congrArg Value.bool (decide_eq_decide.2 (by omega))) (Z18 20 rfl (by kernel_rfl) rfl (Z3 rfl) rfl ?_))))))
       by_cases h42 : a1.length ≤ n15
       ·replace hq26 := if_t hq26 h42
        refine UW.slot (.bool true) (congrArg Value.bool (decide_eq_true h42)) (Z18 21 rfl (by kernel_rfl) rfl (Z3 rfl) rfl (Z18 22 rfl (by kernel_rfl) rfl (Z3 rfl) rfl ?_))
        obtain ⟨x43, hx44, hq26⟩ := Z101 hq26
        have hl45 := Z110 hx44
        refine Z18 23 rfl (by kernel_rfl) rfl (Z119 (n15) rfl rfl rfl rfl rfl (v5.isSome (by decide) hl45) (by omega)) rfl (Z18 24 rfl (by kernel_rfl) rfl (Z21 rfl rfl rfl (fun w m => v5.cell (Z113 hΦ 0 m rfl) (u8s_at hx44))) rfl (Z18 25 rfl (by kernel_rfl) rfl (RV.neq8 rfl (by first | rfl | exact lit8 _ rfl) rfl (by first | rfl | exact lit8 _ rfl)) rfl (Z18 26 rfl (by kernel_rfl) rfl (Z112 rfl rfl rfl) rfl (Z18 27 rfl (by kernel_rfl) rfl (Z107 rfl rfl rfl) rfl (UW.nil (by kernel_rfl) (Z6 ?_))))))
        exact QW.join ⟨(!decide (x43 = 195#8)), (Zi hq26).symm, rfl, rfl⟩ ⟨rfl, rfl, rfl, rfl, trivial⟩ (fun w m => m.pick [] 0 rfl rfl)
       ·replace hq26 := if_f hq26 h42
        refine UW.slot (.bool false) (congrArg Value.bool (decide_eq_false h42)) (UW.skip 21 rfl (by kernel_rfl) rfl rfl (UW.skip 22 rfl (by kernel_rfl) rfl rfl (UW.skip 23 rfl (by kernel_rfl) rfl rfl (UW.skip 24 rfl (by kernel_rfl) rfl rfl (UW.skip 25 rfl (by kernel_rfl) rfl rfl (Z18 26 rfl (by kernel_rfl) rfl (Z107 rfl rfl rfl) rfl (Z18 27 rfl (by kernel_rfl) rfl (Z107 rfl rfl rfl) rfl ?_)))))))
        refine UW.nil (by kernel_rfl) (Z6 ?_)
        exact QW.join ⟨false, (Zi hq26).symm, rfl, rfl⟩ ⟨rfl, rfl, rfl, rfl, trivial⟩ (fun w m => m.pick [] 0 rfl rfl)
      ·replace hq26 := if_f hq26 h41
       refine UW.slot (.bool true) (congrArg Value.bool (congrArg (fun b => !b) (decide_eq_false h41))) (UW.skip 16 rfl (by kernel_rfl) rfl rfl (UW.skip 17 rfl (by kernel_rfl) rfl rfl (UW.skip 18 rfl (by kernel_rfl) rfl rfl (UW.skip 19 rfl (by kernel_rfl) rfl rfl (UW.skip 20 rfl (by kernel_rfl) rfl rfl (UW.skip 21 rfl (by kernel_rfl) rfl rfl (UW.skip 22 rfl (by kernel_rfl) rfl rfl ?_)))))))
       refine UW.skip 23 rfl (by kernel_rfl) rfl rfl (UW.skip 24 rfl (by kernel_rfl) rfl rfl (UW.skip 25 rfl (by kernel_rfl) rfl rfl (UW.skip 26 rfl (by kernel_rfl) rfl rfl (Z18 27 rfl (by kernel_rfl) rfl (Z112 rfl rfl rfl) rfl (UW.nil (by kernel_rfl) (Z6 ?_))))))
       exact QW.join ⟨true, (Zi hq26).symm, rfl, rfl⟩ ⟨rfl, rfl, rfl, rfl, trivial⟩ (fun w m => m.pick [] 0 rfl rfl)
     ·replace hq26 := if_f hq26 h34
      refine UW.slot (.bool false) (congrArg Value.bool (decide_eq_false h34)) (UW.skip 5 rfl (by kernel_rfl) rfl rfl (UW.skip 6 rfl (by kernel_rfl) rfl rfl (UW.skip 7 rfl (by kernel_rfl) rfl rfl (UW.skip 8 rfl (by kernel_rfl) rfl rfl (UW.skip 9 rfl (by kernel_rfl) rfl rfl (UW.skip 10 rfl (by kernel_rfl) rfl rfl (UW.skip 11 rfl (by kernel_rfl) rfl rfl ?_)))))))
      refine UW.skip 12 rfl (by kernel_rfl) rfl rfl (UW.skip 13 rfl (by kernel_rfl) rfl rfl (Z18 14 rfl (by kernel_rfl) rfl (Z107 rfl rfl rfl) rfl (Z18 15 rfl (by kernel_rfl) rfl (Z3 rfl) rfl (Z18 16 rfl (by kernel_rfl) rfl (Z3 rfl) rfl (Z18 17 rfl (by kernel_rfl) rfl (Z3 rfl) rfl (Z18 18 rfl (by kernel_rfl) rfl (RV.len rfl rfl) rfl (Z18 19 rfl (by kernel_rfl) rfl (RV.geq rfl rfl) rfl ?_)))))))
      refine UW.slot (.bool (decide (a1.length ≤ n15))) (congrArg Value.bool (decide_eq_decide.2 (by omega))) (Z18 20 rfl (by kernel_rfl) rfl (Z3 rfl) rfl ?_)
      by_cases h46 : a1.length ≤ n15
      ·replace hq26 := if_t hq26 h46
       refine UW.slot (.bool true) (congrArg Value.bool (decide_eq_true h46)) (Z18 21 rfl (by kernel_rfl) rfl (Z3 rfl) rfl (Z18 22 rfl (by kernel_rfl) rfl (Z3 rfl) rfl ?_))
       obtain ⟨x47, hx48, hq26⟩ := Z101 hq26
       have hl49 := Z110 hx48
       refine Z18 23 rfl (by kernel_rfl) rfl (Z119 (n15) rfl rfl rfl rfl rfl (v5.isSome (by decide) hl49) (by omega)) rfl (Z18 24 rfl (by kernel_rfl) rfl (Z21 rfl rfl rfl (fun w m => v5.cell (Z113 hΦ 0 m rfl) (u8s_at hx48))) rfl (Z18 25 rfl (by kernel_rfl) rfl (RV.neq8 rfl (by first | rfl | exact lit8 _ rfl) rfl (by first | rfl | exact lit8 _ rfl)) rfl (Z18 26 rfl (by kernel_rfl) rfl (Z112 rfl rfl rfl) rfl (Z18 27 rfl (by kernel_rfl) rfl (Z107 rfl rfl rfl) rfl (UW.nil (by kernel_rfl) (Z6 ?_))))))
       exact QW.join ⟨(!decide (x47 = 195#8)), (Zi hq26).symm, rfl, rfl⟩ ⟨rfl, rfl, rfl, rfl, trivial⟩ (fun w m => m.pick [] 0 rfl rfl)
      ·replace hq26 := if_f hq26 h46
       refine UW.slot (.bool false) (congrArg Value.bool (decide_eq_false h46)) (UW.skip 21 rfl (by kernel_rfl) rfl rfl (UW.skip 22 rfl (by kernel_rfl) rfl rfl (UW.skip 23 rfl (by kernel_rfl) rfl rfl (UW.skip 24 rfl (by kernel_rfl) rfl rfl (UW.skip 25 rfl (by kernel_rfl) rfl rfl (Z18 26 rfl (by kernel_rfl) rfl (Z107 rfl rfl rfl) rfl (Z18 27 rfl (by kernel_rfl) rfl (Z107 rfl rfl rfl) rfl ?_)))))))
       refine UW.nil (by kernel_rfl) (Z6 ?_)
       exact QW.join ⟨false, (Zi hq26).symm, rfl, rfl⟩ ⟨rfl, rfl, rfl, rfl, trivial⟩ (fun w m => m.pick [] 0 rfl rfl)
   ·replace hl18 := if_f hl18 h24
    refine Z14 rfl (decide_eq_false h24) (CW.exit (Z9 (Z9 (Z15 ?_))))
    exact QW.join ⟨(Zi hl18).symm, rfl, rfl⟩ trivial (fun w m => m.pick [] 0 rfl rfl)
 ·replace hf := if_f hf h4
  refine Z13 rfl (congrArg (fun b => !b) (decide_eq_false h4)) (Z4 (Z2 (Z0 (Z5 rfl) rfl (Z6 (Z1 (CW.ret (Z8 ?_)))))))
  have e0 := Zi hf
  subst e0
  refine Z111 (rs := [.tmp 4]) ([.bool false]) ([]) rfl ?_ rfl ?_ ?_ _ (.inl rfl)
  ·exact ⟨rfl, trivial⟩
  ·exact rfl
  ·exact (fun w m => m)
abbrev TwC (gs : List Lg) (m : Nat) : List Value := lgC gs ++ (zc m ++ LgMk.C)
theorem waybilllaw17_twin_own (w0 : World) (Φ : Ctx) (N : List Ent) (hΦ : ∀ w, Mem w0 w N → Φ w) (A : Option Addr) (c : Nat) (cs : List Value) (logs x : List Log) (va : View Φ A logs.length c 22 cs) (ha : Reps (LogRd Φ) cs logs) (hf : waybilllaw17_twin logs = some x) :
  DoesG Tryd.prog 18 [.slice A logs.length c] w0 [] N (fun v G => ∃ (gs : List Lg) (b : Nat), (∀ g ∈ gs, LgM g) ∧ gs.map Lg.val = x ∧ x.length * 72 ≤ 140737488355328 ∧ v = sl (some b) 0 x.length (x.length + 1) ∧ G = (some b, blk (lgC gs ++ LgMk.C) 63) :: lgs 24 5 gs) := by
 have hm := va.mx
 unfold waybilllaw17_twin at hf
 obtain ⟨hfit, hf⟩ := some_if hf
 obtain rfl := Zi hf
 simp only [twfit, Bool.and_eq_true, List.all_eq_true, decide_eq_true_eq] at hfit
 obtain ⟨hfit1, hfit2⟩ := hfit
 refine DoesG.enter Tryd.func18 rfl Tryd.ntmps18 rfl (M := N) rfl (Z4 (Z2 (Z0 (Z5 rfl) rfl (Z6 ?_))))
 (refine Z1 ?_; refine Z4 ?_)
 refine Z2 (Z0 (Z3 rfl) rfl (Z0 (RV.len rfl rfl) rfl (Z0 (RV.add rfl rfl (by omega)) rfl (OW.makeS (zs := LogZ0.C) (logs.length + 1) (logs.length + 1) rfl (by omega) rfl (by omega) rfl rfl rfl (by kernel_rfl) (LogC.C_length _) (by omega) (by simp only [i63]; omega) (by omega) rfl (fun b9 => (Z0 (Z5 rfl) rfl (Z6 ?_)))))))
 (refine Z1 ?_; refine Z4 ?_)
 refine Z2 (Z0 (Z3 rfl) rfl (Z0 (Z3 rfl) rfl (Z0 (RV.len rfl rfl) rfl (Z0 (RV.buildA (l := List.replicate 20 (.int .u8 0)) (cs := u8s mk20.toList) rfl rfl rfl (by kernel_rfl) rfl rfl rfl) rfl ?_))))
 refine Z0 (RV.buildSt (l := LogZ0.C) (cs := LgMk.C) [(0, u8s mk20.toList)] rfl rfl rfl (by kernel_rfl) rfl rfl (by refine (fillL_cons rfl ((Z100 _).trans Zv) (by rw [LogC.C_length]; exact Nat.le_of_ble_eq_true rfl)).trans ?_; rw [LogC.C_address_spl]; rfl)) rfl ?_
 refine Z0 (RV.idx_os (logs.length) rfl rfl rfl rfl rfl rfl (by omega)) rfl ?_
 refine Z28 (SV.storeAs rfl rfl rfl (LogC.C_one _ rfl rfl) rfl (LogC.C_length _) (by show 0 + logs.length * 22 + 22 ≤ (zc (logs.length + 1)).length; rw [zc_length]; omega)) ?_; refine OW.cells (TwC [] logs.length) (by rw [Nat.zero_add]; exact tw_mark _) ?_
 refine Z6 ?_
 (refine Z1 ?_; refine Z4 ?_; refine Z4 ?_)
 refine Z2 (Z0 (Z5 rfl) rfl (Z6 ?_))
 (refine Z1 ?_; refine CW.block ?_)
 refine Z114 (fun k L' M' => ∃ (i : Nat) (gs : List Lg), k = logs.length - i ∧ i ≤ logs.length ∧ gs.map Lg.val = logs.take i ∧ (∀ g ∈ gs, LgM g) ∧ L' = [(0, .slice A logs.length c), (3, sl (some b9) 0 (logs.length + 1) (logs.length + 1)), (4, .int .i64 (i : Int))] ∧
  M' = (some b9, blk (TwC gs (logs.length - i)) 63) :: (lgs 24 5 gs ++ N)) (k0 := logs.length) ⟨0, [], rfl, by omega, rfl, (fun g hg => by cases hg), rfl, rfl⟩ ⟨rfl, rfl, rfl, trivial⟩ (fun w m => m) ?_
 rintro k L' M' ⟨i, gs, rfl, hi, hgv, hok, rfl, rfl⟩
 have hgl : gs.length = i := by have := congrArg List.length hgv; rw [List.length_map, List.length_take] at this; omega
 (refine Z4 ?_; refine Z4 ?_)
 refine Z2 (Z0 (Z3 rfl) rfl (Z0 (Z3 rfl) rfl (Z0 (RV.len rfl rfl) rfl (Z0 (RV.lss rfl rfl) rfl (Z6 (Z1 ?_))))))
 refine CW.cond_p rfl (fun hlt2 => ?_) (fun hlt2 => ?_)
 ·have h1 : i < logs.length := by omega
  have hx : logs[i]? = some logs[i] := List.getElem?_eq_getElem h1
  obtain ⟨ci, hci, hcc⟩ := ha.get LogRd.len hx
  obtain ⟨At, ct, cst, Ad, cd, rfl, vt, ht, vd⟩ := LogRd.opn hci
  have hst := hs32_of ht
  subst hst
  obtain ⟨hfx, hfd⟩ := hfit1 _ (List.getElem_mem h1)
  have hmt := vt.mx
  have hmd := vd.mx
  have hsome := va.isSome (by decide) h1
  generalize hlx : logs[i] = lx at *
  (refine CW.skip ?_; refine Z1 ?_; refine Z4 ?_; refine CW.block ?_; refine Z4 ?_)
  refine Z2 (Z0 (Z3 rfl) rfl (Z0 (Z3 rfl) rfl (Z0 (Z103 (i) rfl rfl rfl rfl rfl hsome (by omega)) rfl (Z0 (Z31 rfl rfl rfl rfl) rfl (Z0 (Z21 rfl rfl rfl (fun w m => va.load_fld (hΦ w (m.drop 1).appR) hcc (Z105 _))) rfl (Z0 (RV.len rfl rfl) rfl (Z0 (RV.add rfl rfl (by omega)) rfl ?_)))))))
  refine OW.makeS (zs := u8s (Vector.replicate 32 0#8).toList) (lx.topics.length + 1) (lx.topics.length + 1) rfl (by omega) rfl (by omega) rfl rfl rfl (by kernel_rfl) ((Z100 _).trans Zv) (by omega) (by simp only [i24]; omega) (by omega) rfl (fun bt => (Z0 (Z5 rfl) rfl (Z6 ?_)))
  (refine Z1 ?_; refine Z4 ?_)
  refine Z2 (Z0 (Z3 rfl) rfl (Z0 (Z3 rfl) rfl (Z0 (Z3 rfl) rfl (Z0 (Z103 (i) rfl rfl rfl rfl rfl hsome (by omega)) rfl (Z0 (Z31 rfl rfl rfl rfl) rfl (Z0 (Z21 rfl rfl rfl (fun w m => va.load_fld (hΦ w (m.drop 2).appR) hcc (Z105 _))) rfl ?_))))))
  refine OW.copyS (s := 32) rfl rfl rfl rfl (fun e => nomatch e) (by rw [Nat.zero_add, List.length_flatten, List.map_replicate, List.sum_replicate_nat, Z100, Zv]; exact Nat.le_refl _) (fun w m => vt.rd w (hΦ w (m.drop 2).appR)) vt.n (hs32_one _) (vt.zero (by decide)) rfl ?_; refine OW.cells (hs32 lx.topics ++ u8s (Vector.replicate 32 0#8).toList) (make_copyS (hs32 lx.topics) (u8s (Vector.replicate 32 0#8).toList) ((Z100 _).trans Zv) (Z115 _) (by omega)) ?_
  refine Z6 ?_
  (refine Z1 ?_; refine Z4 ?_)
  refine Z2 (Z0 (Z3 rfl) rfl (Z0 (Z3 rfl) rfl (Z0 (Z3 rfl) rfl (Z0 (Z103 (i) rfl rfl rfl rfl rfl hsome (by omega)) rfl (Z0 (Z31 rfl rfl rfl rfl) rfl (Z0 (Z21 rfl rfl rfl (fun w m => va.load_fld (hΦ w (m.drop 2).appR) hcc (Z105 _))) rfl (Z0 (RV.len rfl rfl) rfl ?_)))))))
  refine Z0 (RV.buildA (l := List.replicate 32 (.int .u8 0)) (cs := u8s mk32.toList) rfl rfl rfl (by kernel_rfl) rfl rfl rfl) rfl (Z0 (RV.idx_os (lx.topics.length) rfl rfl rfl rfl rfl rfl (by omega)) rfl ?_)
  refine Z28 (SV.storeAs rfl rfl rfl (u8s_one _) rfl ((Z100 _).trans Zv) (by show 0 + lx.topics.length * 32 + 32 ≤ _; rw [List.length_append, Z115, Z100, Zv]; omega)) ?_; refine OW.cells (hs32 lx.topics ++ u8s mk32.toList) (by rw [Nat.zero_add]; exact tw_topic _ _ ((Z100 _).trans Zv)) ?_
  refine Z6 (Z1 (CW.drawsX ((some bt, blk (hs32 lx.topics ++ u8s mk32.toList) 24) :: (lgs 24 5 gs ++ N)) [23] (fun w m => m.pick [0] 2 rfl rfl) mixed (by kernel_rfl) (Z10 0 rfl (by kernel_rfl) rfl (Z3 rfl) rfl (Z10 1 rfl (by kernel_rfl) rfl (Z3 rfl) rfl (Z10 2 rfl (by kernel_rfl) rfl (Z3 rfl) rfl (Z10 3 rfl (by kernel_rfl) rfl (Z3 rfl) rfl (Z10 4 rfl (by kernel_rfl) rfl (Z103 (i) rfl rfl rfl rfl rfl hsome (by omega)) rfl (Z10 5 rfl (by kernel_rfl) rfl (Z31 rfl rfl rfl rfl) rfl ?_))))))))
  refine Z10 6 rfl (by kernel_rfl) rfl (Z104 rfl rfl rfl rfl (fun w m => va.load_part (hΦ w (m.drop 1).appR) hcc (Z109 _)) ((Z100 _).trans Zv)) rfl (Z10 7 rfl (by kernel_rfl) rfl (Z3 rfl) rfl (Z10 8 rfl (by kernel_rfl) rfl (Z3 rfl) rfl (Z10 9 rfl (by kernel_rfl) rfl (Z3 rfl) rfl (Z10 10 rfl (by kernel_rfl) rfl (Z103 (i) rfl rfl rfl rfl rfl hsome (by omega)) rfl (Z10 11 rfl (by kernel_rfl) rfl (Z31 rfl rfl rfl rfl) rfl (Z10 12 rfl (by kernel_rfl) rfl (Z21 rfl rfl rfl (fun w m => va.load_fld (hΦ w (m.drop 1).appR) hcc (Z105 _))) rfl (Z10 13 rfl (by kernel_rfl) rfl (RV.len rfl rfl) rfl ?_)))))))
  refine Z10 14 rfl (by kernel_rfl) rfl (RV.cut_o (lx.topics.length) rfl rfl rfl rfl rfl (by omega)) rfl (Z10 15 rfl (by kernel_rfl) rfl (Z3 rfl) rfl (Z10 16 rfl (by kernel_rfl) rfl (Z3 rfl) rfl (Z10 17 rfl (by kernel_rfl) rfl (Z103 (i) rfl rfl rfl rfl rfl hsome (by omega)) rfl (Z10 18 rfl (by kernel_rfl) rfl (Z31 rfl rfl rfl rfl) rfl (Z10 19 rfl (by kernel_rfl) rfl (Z21 rfl rfl rfl (fun w m => va.load_fld (hΦ w (m.drop 1).appR) hcc (LogC.C_data _))) rfl ?_)))))
  refine Z11 20 rfl (by kernel_rfl) rfl Tryd.call38 rfl (fun N' hN' => waybilllaw17_lent_raw w0 Φ N' (fun w m => hΦ w ((hN' w m).drop 2).appR) Ad cd lx.data lx.data vd (by unfold waybilllaw17_lent lentN; exact if_pos (by omega))) rfl ?_
  rintro _ _ ⟨bd, od, _, rfl, rfl⟩
  generalize hg : (⟨lx.address, some bt, lx.topics, lx.topics.length + 1, u8s mk32.toList, some bd, lx.data, lx.data.length + 70, u8s (List.replicate 70 195#8) ++ []⟩ : Lg) = g
  have gm : LgM g := by
   rw [← hg]
   exact ⟨⟨⟨Z115 _, by show (hs32 lx.topics ++ u8s mk32.toList).length = (lx.topics.length + 1) * 32; rw [List.length_append, Z115, Z100, Zv]; omega, (fun e => nomatch e), by show lx.topics.length ≤ _; omega⟩, od⟩, rfl, rfl, rfl, rfl, by show lx.topics.length + 1 ≤ _; omega, by show lx.data.length + 70 ≤ _; omega⟩
  have gval : g.val = lx := by rw [← hg]; rfl
  have gent : g.ents 24 5 = [(some bt, blk (hs32 lx.topics ++ u8s mk32.toList) 24), (some bd, blk (u8s lx.data ++ (u8s (List.replicate 70 195#8) ++ [])) 5)] := by rw [← hg]; rfl
  refine Z10 21 rfl (by kernel_rfl) rfl (RV.buildSt (l := LogZ0.C) (cs := g.cells) [(0, u8s lx.address.toList), (1, [sl (some bt) 0 lx.topics.length (lx.topics.length + 1)]), (2, [sl (some bd) 0 lx.data.length (lx.data.length + 70)])] rfl rfl rfl (by kernel_rfl) rfl rfl (by
   rw [← hg]
   refine (fillL_cons rfl ((Z100 _).trans Zv) (by rw [LogC.C_length]; exact Nat.le_of_ble_eq_true rfl)).trans ?_; rw [LogC.C_address_spl]
   refine (fillL_cons rfl rfl (by rw [LogC.C_length]; exact Nat.le_of_ble_eq_true rfl)).trans ?_; rw [spl_one (by rw [LogC.C_length]; exact Nat.le_of_ble_eq_true rfl), LogC.C_topics_set]
   refine (fillL_cons rfl rfl (by rw [LogC.C_length]; exact Nat.le_of_ble_eq_true rfl)).trans ?_; rw [spl_one (by rw [LogC.C_length]; exact Nat.le_of_ble_eq_true rfl), LogC.C_data_set]
   rfl)) rfl ?_
  refine Z10 22 rfl (by kernel_rfl) rfl (RV.idx_os (i) rfl rfl rfl rfl rfl rfl (by omega)) rfl (Z19 (M' := (some b9, blk (TwC gs (logs.length - i)) 63) :: (some bt, blk (hs32 lx.topics ++ u8s mk32.toList) 24) :: (some bd, blk (u8s lx.data ++ (u8s (List.replicate 70 195#8) ++ [])) 5) :: (lgs 24 5 gs ++ N)) (fun w m => m.pick [2, 1, 0] 3 rfl rfl) (fun w m => m.pick [1] 3 rfl rfl) ?_)
  refine XW.sv 23 rfl (by kernel_rfl) (SV.storeAs rfl rfl rfl g.cells_one rfl g.cells_length (by show 0 + i * 22 + 22 ≤ _; rw [List.length_append, List.length_append, lgC_length, zc_length, LogC.C_length]; omega)) (fun w m => m.pick [1] 3 rfl rfl) ?_
  refine XW.cells (TwC (gs ++ [g]) (logs.length - (i + 1))) (by rw [show logs.length - i = (logs.length - (i + 1)) + 1 by omega]; exact tw_set (show 0 + i * 22 = gs.length * 22 by omega)) ?_
  refine XW.nil (by kernel_rfl) ?_
  (refine Z27 ?_; refine Z1 ?_)
  refine Z2 (Z0 (Z3 rfl) rfl (Z0 (RV.add rfl rfl (by omega)) rfl (Z0 (Z5 rfl) rfl (Z6 ?_))))
  refine Z106 (k' := logs.length - (i + 1)) (by omega) ⟨i + 1, gs ++ [g], rfl, by omega, by rw [List.map_append, hgv, List.take_add_one, hx, List.map_cons, gval]; rfl, ?_, rfl, rfl⟩ ⟨rfl, rfl, rfl, trivial⟩ (fun w m => lgs_snoc (X := [_]) (by rw [gent]; exact m)) 
  intro x hx
  rcases List.mem_append.1 hx with hx | hx
  ·exact hok x hx
  ·obtain rfl := List.mem_singleton.1 hx
   exact gm
 ·have hie : i = logs.length := by omega
  subst hie
  rw [List.take_length] at hgv
  (refine CW.exit ?_; refine Z9 ?_; refine Z9 ?_; refine Z15 ?_; refine Z1 ?_; refine Z4 ?_)
  refine Z2 (Z0 (Z3 rfl) rfl (Z0 (Z3 rfl) rfl (Z0 (RV.len rfl rfl) rfl (Z0 (RV.cut_o _ rfl rfl rfl rfl rfl (by omega)) rfl (Z0 (Z5 rfl) rfl (Z6 ?_))))))
  (refine Z1 ?_; refine CW.ret ?_)
  refine Z111 (rs := [.tmp 2]) [sl (some b9) 0 logs.length (logs.length + 1)] ((some b9, blk (lgC gs ++ LgMk.C) 63) :: lgs 24 5 gs) rfl ?_ rfl ⟨gs, b9, hok, hgv, hfit2, rfl, rfl⟩ (fun w m => ?_) _ (.inl rfl)
  ·exact ⟨rfl, trivial⟩
  ·rw [Nat.sub_self] at m
   exact m
theorem waybilllaw17_twin_does (w0 : World) (Φ : Ctx) (N : List Ent) (hΦ : ∀ w, Mem w0 w N → Φ w) (A : Option Addr) (c : Nat) (cs : List Value) (logs x : List Log) (va : View Φ A logs.length c 22 cs) (ha : Reps (LogRd Φ) cs logs) (hf : waybilllaw17_twin logs = some x) :
  DoesG Tryd.prog 18 [.slice A logs.length c] w0 [] N (fun v G => ∃ B : List Ent, ∃ Ar0 : Option Addr, ∃ kr0 : Nat, LRooms (More w0 Φ B) Ar0 kr0 x ∧ v = .slice Ar0 x.length kr0 ∧ G = B) :=
 (waybilllaw17_twin_own w0 Φ N hΦ A c cs logs x va ha hf).mono fun v G ⟨gs, b, hok, hv, hl, e1, e2⟩ => by
  subst hv e1 e2
  have hr := lgm_reps (w0 := w0) (Φ := More w0 Φ ((some b, blk (lgC gs ++ LgMk.C) 63) :: lgs 24 5 gs)) (tH := 24) (tB := 5) hok (fun w q => q.2.tail)
  have hc : (lgC gs ++ LgMk.C).length = ((gs.map Lg.val).length + 1) * 22 := by rw [List.length_append, lgC_length, LogC.C_length, List.length_map]; omega
  have ho : OwnS (some b) ((gs.map Lg.val).length + 1) ((gs.map Lg.val).length + 1) 22 (lgC gs ++ LgMk.C) [] := ⟨hc, by rw [List.append_nil]; exact hc, (fun e => nomatch e), by omega⟩
  have hvl := ho.view (te := 63) (w0 := w0) (Ψ := More w0 Φ ((some b, blk (lgC gs ++ LgMk.C) 63) :: lgs 24 5 gs)) (by decide) (fun w q => by rw [List.append_nil]; exact q.2.sublist (List.singleton_sublist.2 (List.mem_cons_self ..)))
  exact ⟨_, _, _, LRooms.mk hvl hr, rfl, rfl⟩
theorem waybilllaw17_stillLogs_does (w0 : World) (Φ : Ctx) (N : List Ent) (hΦ : ∀ w, Mem w0 w N → Φ w) (A0 : Option Addr) (c0 : Nat) (x : List Log) (A1 : Option Addr) (c1 : Nat) (cs1 : List Value) (y : List Log) (r : Bool) (h0 : LRooms Φ A0 c0 x) (va1 : View Φ A1 y.length c1 22 cs1) (ha1 : Reps (LogRd Φ) cs1 y) (hf : waybilllaw17_stillLogs x y = some r) :
  DoesG Tryd.prog 24 [.slice A0 x.length c0, .slice A1 y.length c1] w0 [] N (fun v G => v = .bool r) := by
 obtain ⟨rfl, rfl, hsame⟩ := stillLogs_true hf
 obtain ⟨cs, vb, v0, r0⟩ := h0.opn
 have rl := r0.mono LmRd.log
 have hm := vb.mx
 have hle := vb.le
 have hlen := r0.len LmRd.len
 have hs0 : A0.isSome = true := vb.isSome (by decide) (i := 0) (by omega)
 refine DoesG.enter Tryd.func24 rfl Tryd.ntmps24 rfl (M := N) rfl (Z4 (Z2 (Z0 (Z5 rfl) rfl (Z6 ?_))))
 (refine Z1 ?_; refine Z4 ?_)
 refine Z2 (Z0 (Z3 rfl) rfl (Z0 (Z3 rfl) rfl (Z0 (RV.len rfl rfl) rfl (Z0 (RV.add rfl rfl (by omega)) rfl (Z0 (RV.cut_hi (x.length + 1) rfl rfl (by omega) rfl rfl (by omega)) rfl (Z0 (Z5 rfl) rfl (Z6 ?_)))))))
 (refine Z1 ?_; refine Z4 ?_; refine Z4 ?_)
 refine Z2 (Z0 (Z3 rfl) rfl (Z0 (Z3 rfl) rfl (Z12 Tryd.call45 rfl (waybilllaw17_sameLogs_does w0 Φ N hΦ A0 c0 cs x A1 c1 cs1 x true v0 rl va1 ha1 hsame) rfl rfl ?_)))
 rintro _ G1 rfl
 refine Z20 (M' := N) (fun w m => m.appR) (Z0 (RV.not rfl) rfl (Z0 (Z3 rfl) rfl (Z24 rfl (Z0 (Z3 rfl) rfl (Z24 rfl (Z0 (Z3 rfl) rfl (Z24 rfl ?_)))))))
 refine Z0 (RV.len rfl rfl) rfl (Z24 rfl (Z0 (Z103 (x.length) rfl rfl rfl rfl rfl hs0 (by omega)) rfl (Z24 rfl (Z0 (Z31 rfl rfl rfl rfl) rfl (Z24 rfl ?_)))))
 refine Z0 (Z104 (vs := u8s mk20.toList) rfl rfl rfl rfl (fun w m => vb.load_part (hΦ w m) (cs := LgMk.C) (fun j u hj => by rw [List.getElem?_append_right (by show cs.length ≤ x.length * 22 + j; omega)]; rw [show x.length * i63.sz + j - cs.length = j by show x.length * 22 + j - cs.length = j; omega]; exact hj) (Z109 LgMk)) ((Z100 _).trans Zv)) rfl ?_
 refine Z24 rfl (Z0 (RV.buildA (l := List.replicate 20 (.int .u8 0)) (cs := u8s mk20.toList) rfl rfl rfl (by kernel_rfl) rfl rfl rfl) rfl (Z24 rfl (Z0 (RV.neA8_f rfl rfl rfl rfl rfl rfl (Zv) rfl) rfl (Z0 (Z107 rfl rfl rfl) rfl (Z6 (Z1 (CW.cond_f rfl ?_)))))))
 (refine CW.skip ?_; refine Z1 ?_; refine Z4 ?_; refine Z4 ?_)
 refine Z2 (Z0 (Z5 rfl) rfl (Z6 ?_))
 (refine Z1 ?_; refine CW.block ?_)
 refine Z114 (fun k L' M' => ∃ (i : Nat), k = x.length - i ∧ i ≤ x.length ∧ L' = [(0, .slice A0 x.length c0), (1, .slice A1 x.length c1), (6, .int .i64 (i : Int))] ∧
  M' = N) (k0 := x.length) ⟨0, rfl, by omega, rfl, rfl⟩ ⟨rfl, rfl, rfl, trivial⟩ (fun w m => m) ?_
 rintro k L' M' ⟨i, rfl, hi, rfl, hM⟩
 rw [hM]
 clear hM M'
 (refine Z4 ?_; refine Z4 ?_)
 refine Z2 (Z0 (Z3 rfl) rfl (Z0 (Z3 rfl) rfl (Z0 (RV.len rfl rfl) rfl (Z0 (RV.lss rfl rfl) rfl (Z6 (Z1 ?_))))))
 refine CW.cond_p rfl (fun hlt2 => ?_) (fun hlt2 => ?_)
 ·have h1 : i < x.length := by omega
  have hx : x[i]? = some x[i] := List.getElem?_eq_getElem h1
  obtain ⟨ci, hci, hcc⟩ := ha1.get LogRd.len hx
  obtain ⟨At, ct, cst, Ad, cd, rfl, vt, ht, vd⟩ := LogRd.opn hci
  obtain ⟨cj, ⟨B1, B2, hcj, w1, w2⟩, hcd⟩ := r0.get LmRd.len hx
  subst hcj
  have hs1 := va1.isSome (by decide) h1
  have hst := still17_eq (x[i]).data
  have hmw := w1.mx
  have hsw := w1.isSome (by decide) (i := (x[i]).topics.length) (by omega)
  generalize hlx : x[i] = lx at *
  have hl32 : (hs32 lx.topics).length = lx.topics.length * 32 := Z115 _
  (refine CW.skip ?_; refine Z1 ?_; refine Z4 ?_; refine CW.block ?_; refine Z4 ?_)
  refine Z2 (Z0 (Z3 rfl) rfl (Z0 (Z3 rfl) rfl (Z0 (Z103 (i) rfl rfl rfl rfl rfl hs1 (by omega)) rfl (Z0 (Z31 rfl rfl rfl rfl) rfl (Z0 (Z21 rfl rfl rfl (fun w m => va1.load_fld (hΦ w m) hcc (Z105 _))) rfl (Z0 (RV.len rfl rfl) rfl (Z0 (Z5 rfl) rfl ?_)))))))
  refine Z6 ?_
  (refine Z1 ?_; refine Z4 ?_)
  refine Z2 (Z0 (Z3 rfl) rfl (Z0 (Z3 rfl) rfl (Z0 (Z103 (i) rfl rfl rfl rfl rfl hs0 (by omega)) rfl (Z0 (Z31 rfl rfl rfl rfl) rfl (Z0 (Z21 rfl rfl rfl (fun w m => v0.load_fld (hΦ w m) hcd (Z105 _))) rfl (Z0 (Z3 rfl) rfl (Z0 (RV.add rfl rfl (by omega)) rfl ?_)))))))
  refine Z0 (RV.cut_hi (lx.topics.length + 1) rfl rfl (by omega) rfl rfl (by omega)) rfl (Z0 (Z5 rfl) rfl (Z6 ?_))
  (refine Z1 ?_; refine Z4 ?_)
  refine CW.drawsX N [] (fun w m => m) mixed (by kernel_rfl) (Z10 0 rfl (by kernel_rfl) rfl (Z3 rfl) rfl (Z10 1 rfl (by kernel_rfl) rfl (Z3 rfl) rfl (Z10 2 rfl (by kernel_rfl) rfl (Z103 (lx.topics.length) rfl rfl rfl rfl rfl hsw (by omega)) rfl ?_)))
  refine Z10 3 rfl (by kernel_rfl) rfl (Z104 (vs := u8s mk32.toList) rfl rfl rfl rfl (fun w m => w1.load (hΦ w m) (fun j u hj => by rw [List.getElem?_append_right (by show _ ≤ lx.topics.length * 32 + j; omega)]; rw [show lx.topics.length * i24.sz + j - (hs32 lx.topics).length = j by show lx.topics.length * 32 + j - _ = j; omega]; exact hj)) ((Z100 _).trans Zv)) rfl ?_
  refine Z10 4 rfl (by kernel_rfl) rfl (RV.buildA (l := List.replicate 32 (.int .u8 0)) (cs := u8s mk32.toList) rfl rfl rfl (by kernel_rfl) rfl rfl rfl) rfl (Z10 5 rfl (by kernel_rfl) rfl (RV.neA8_f rfl rfl rfl rfl rfl rfl (Zv) rfl) rfl (Z10 6 rfl (by kernel_rfl) rfl (Z3 rfl) rfl (Z10 7 rfl (by kernel_rfl) rfl (Z3 rfl) rfl (Z10 8 rfl (by kernel_rfl) rfl (Z3 rfl) rfl (Z10 9 rfl (by kernel_rfl) rfl (Z103 (i) rfl rfl rfl rfl rfl hs0 (by omega)) rfl (Z10 10 rfl (by kernel_rfl) rfl (Z31 rfl rfl rfl rfl) rfl (Z10 11 rfl (by kernel_rfl) rfl (Z21 rfl rfl rfl (fun w m => v0.load_fld (hΦ w m) hcd (LogC.C_data _))) rfl ?_)))))))
  refine Z10 12 rfl (by kernel_rfl) rfl (Z3 rfl) rfl (Z10 13 rfl (by kernel_rfl) rfl (Z3 rfl) rfl (Z10 14 rfl (by kernel_rfl) rfl (Z103 (i) rfl rfl rfl rfl rfl hs1 (by omega)) rfl (Z10 15 rfl (by kernel_rfl) rfl (Z31 rfl rfl rfl rfl) rfl (Z10 16 rfl (by kernel_rfl) rfl (Z21 rfl rfl rfl (fun w m => va1.load_fld (hΦ w m) hcc (LogC.C_data _))) rfl ?_))))
  refine Z11 17 rfl (by kernel_rfl) rfl Tryd.call41 rfl (fun N' hN' => waybilllaw17_still_does w0 Φ N' (fun w m => hΦ w (hN' w m)) B2 (lx.data.length + 70) lx.data Ad cd lx.data true (by rw [List.length_append, List.length_replicate]; exact w2) vd hst) rfl ?_
  rintro _ G2 rfl
  refine Z19 (M' := N) (fun w m => m.appR) (fun w m => m) (Z10 18 rfl (by kernel_rfl) rfl (RV.not rfl) rfl (Z10 19 rfl (by kernel_rfl) rfl (Z107 rfl rfl rfl) rfl (XW.nil (by kernel_rfl) (Z1 (CW.cond_f rfl ?_)))))
  (refine CW.skip ?_; refine Z27 ?_; refine Z1 ?_)
  refine Z2 (Z0 (Z3 rfl) rfl (Z0 (RV.add rfl rfl (by omega)) rfl (Z0 (Z5 rfl) rfl (Z6 ?_))))
  refine Z106 (k' := x.length - (i + 1)) (by omega) ⟨i + 1, rfl, by omega, rfl, rfl⟩ ⟨rfl, rfl, rfl, trivial⟩ (fun w m => m)
 ·(refine CW.exit ?_; refine Z9 ?_; refine Z9 ?_; refine Z15 ?_; refine Z1 ?_; refine Z4 ?_)
  refine Z2 (Z0 (Z5 rfl) rfl (Z6 ?_))
  (refine Z1 ?_; refine CW.ret ?_)
  refine Z111 (rs := [.tmp 4]) [.bool true] [] rfl ?_ rfl rfl (fun w m => m) _ (.inl rfl)
  exact ⟨rfl, trivial⟩
theorem waybillplay_LentHashes_does (w0 : World) (Φ : Ctx) (N : List Ent) (hΦ : ∀ w, Mem w0 w N → Φ w) (A : Option Addr) (c : Nat) (x y : List (Vector (BitVec 8) 32)) (hg : ∀ j u, (u8s markH.toList)[j]? = some u → w0.cell? ⟨1, j, none⟩ = some u) (va : View Φ A x.length c 32 (ars x)) (hf : lentAr x = some y) :
  DoesG Tryd.prog 20 [.slice A x.length c] w0 [] N (fun v G => ∃ (ob : Option Nat) (k : Nat) (r : List Value), y = x ∧ OwnS ob (x.length + 2) k 32 (ars (x ++ [markH, markH])) r ∧ v = sl ob 0 x.length k ∧ ∃ B, G = (ob, blk (ars (x ++ [markH, markH]) ++ r) 24) :: B) := by
 have hm := va.mx
 unfold lentAr at hf
 obtain ⟨hb, hf⟩ := some_if hf
 obtain rfl := Zi hf
 refine DoesG.enter Tryd.func20 rfl Tryd.ntmps20 rfl (M := N) rfl (Z4 (Z2 (Z0 (Z5 rfl) rfl (Z6 ?_))))
 (refine Z1 ?_; refine Z4 ?_)
 refine Z2 (Z0 (Z5 rfl) rfl (Z6 ?_))
 (refine Z1 ?_; refine Z4 ?_)
 refine Z2 (Z0 (Z3 rfl) rfl (Z0 (Z3 rfl) rfl ?_))
 refine Z20 (M' := ((none, blk ([] ++ []) 24) :: N)) (fun w m => m.nil_ent _) ?_; refine OW.appendOwn (s := 32) rfl rfl rfl rfl rfl rfl OwnS.nil (fun w m => va.rd w (hΦ w (m.drop 1))) va.n (ars_one _) (va.zero (by decide)) (by decide) (by decide) (by simp only [i24]; omega) rfl rfl (x.length) (ars x) (Nat.zero_add _) rfl (fun ob1 r1 k1 o1 => ?_)
 refine Z0 (Z5 rfl) rfl (Z6 ?_)
 (refine Z1 ?_; refine Z4 ?_)
 refine Z2 (Z0 (Z3 rfl) rfl ?_)
 refine Z0 (Z104 (vs := u8s markH.toList) (a := ⟨1, 0, none⟩) rfl rfl rfl rfl (fun w m j u hj => by rw [Z102, Nat.zero_add]; exact m.oldSome (hg j u hj)) ((Z100 _).trans Zv)) rfl ?_
 refine Z0 (Z104 (vs := u8s markH.toList) (a := ⟨1, 0, none⟩) rfl rfl rfl rfl (fun w m j u hj => by rw [Z102, Nat.zero_add]; exact m.oldSome (hg j u hj)) ((Z100 _).trans Zv)) rfl ?_
 refine OW.ofN (NV.bsA (s := 32) (vss := [u8s markH.toList, u8s markH.toList]) (cs := ars [markH, markH]) rfl rfl (by intro q hq; simp only [List.mem_cons, List.not_mem_nil, or_false, or_self] at hq; subst hq; exact (Z100 _).trans Zv) rfl rfl rfl (by decide) (by decide) (by rw [ars_two]; simp)) rfl (fun b2 => ?_)
 refine OW.rot1 ?_; refine OW.appendOwn (s := 32) rfl rfl rfl rfl rfl rfl o1 (fun w m => m.rdl (List.Mem.tail _ Zh) (fun h => nomatch h)) (ars_length _) (ars_one _) (fun h => nomatch h) (by decide) (by decide) (by simp only [i24]; omega) rfl rfl (x.length + 2) (ars (x ++ [markH, markH])) rfl (ars_app ..).symm (fun ob3 r3 k3 o3 => ?_)
 refine Z0 (Z5 rfl) rfl (Z6 ?_)
 (refine Z1 ?_; refine Z4 ?_)
 have hle := o3.le (by decide)
 refine Z2 (Z0 (Z3 rfl) rfl (Z0 (Z3 rfl) rfl (Z0 (RV.len rfl rfl) rfl (Z0 (RV.cut_o _ rfl rfl rfl rfl rfl (by omega)) rfl (Z0 (Z5 rfl) rfl (Z6 ?_))))))
 (refine Z1 ?_; refine CW.ret ?_)
 refine Z111 (rs := [.tmp 2]) [sl ob3 0 x.length k3] ((ob3, blk (ars (x ++ [markH, markH]) ++ r3) 24) :: [(some b2, blk (ars [markH, markH]) 24)]) rfl ?_ rfl ⟨ob3, k3, r3, rfl, o3, rfl, _, rfl⟩ (fun w m => m) _ (.inl rfl)
 exact ⟨rfl, trivial⟩
theorem waybillplay_LentAddresses_does (w0 : World) (Φ : Ctx) (N : List Ent) (hΦ : ∀ w, Mem w0 w N → Φ w) (A : Option Addr) (c : Nat) (x y : List (Vector (BitVec 8) 20)) (hg : ∀ j u, (u8s markA.toList)[j]? = some u → w0.cell? ⟨0, j, none⟩ = some u) (va : View Φ A x.length c 20 (ars x)) (hf : lentAr x = some y) :
  DoesG Tryd.prog 19 [.slice A x.length c] w0 [] N (fun v G => ∃ (ob : Option Nat) (k : Nat) (r : List Value), y = x ∧ OwnS ob (x.length + 2) k 20 (ars (x ++ [markA, markA])) r ∧ v = sl ob 0 x.length k ∧ ∃ B, G = (ob, blk (ars (x ++ [markA, markA]) ++ r) 60) :: B) := by
 have hm := va.mx
 unfold lentAr at hf
 obtain ⟨hb, hf⟩ := some_if hf
 obtain rfl := Zi hf
 refine DoesG.enter Tryd.func19 rfl Tryd.ntmps19 rfl (M := N) rfl (Z4 (Z2 (Z0 (Z5 rfl) rfl (Z6 ?_))))
 (refine Z1 ?_; refine Z4 ?_)
 refine Z2 (Z0 (Z5 rfl) rfl (Z6 ?_))
 (refine Z1 ?_; refine Z4 ?_)
 refine Z2 (Z0 (Z3 rfl) rfl (Z0 (Z3 rfl) rfl ?_))
 refine Z20 (M' := ((none, blk ([] ++ []) 60) :: N)) (fun w m => m.nil_ent _) ?_; refine OW.appendOwn (s := 20) rfl rfl rfl rfl rfl rfl OwnS.nil (fun w m => va.rd w (hΦ w (m.drop 1))) va.n (ars_one _) (va.zero (by decide)) (by decide) (by decide) (by simp only [i60]; omega) rfl rfl (x.length) (ars x) (Nat.zero_add _) rfl (fun ob1 r1 k1 o1 => ?_)
 refine Z0 (Z5 rfl) rfl (Z6 ?_)
 (refine Z1 ?_; refine Z4 ?_)
 refine Z2 (Z0 (Z3 rfl) rfl ?_)
 refine Z0 (Z104 (vs := u8s markA.toList) (a := ⟨0, 0, none⟩) rfl rfl rfl rfl (fun w m j u hj => by rw [Z102, Nat.zero_add]; exact m.oldSome (hg j u hj)) ((Z100 _).trans Zv)) rfl ?_
 refine Z0 (Z104 (vs := u8s markA.toList) (a := ⟨0, 0, none⟩) rfl rfl rfl rfl (fun w m j u hj => by rw [Z102, Nat.zero_add]; exact m.oldSome (hg j u hj)) ((Z100 _).trans Zv)) rfl ?_
 refine OW.ofN (NV.bsA (s := 20) (vss := [u8s markA.toList, u8s markA.toList]) (cs := ars [markA, markA]) rfl rfl (by intro q hq; simp only [List.mem_cons, List.not_mem_nil, or_false, or_self] at hq; subst hq; exact (Z100 _).trans Zv) rfl rfl rfl (by decide) (by decide) (by rw [ars_two]; simp)) rfl (fun b2 => ?_)
 refine OW.rot1 ?_; refine OW.appendOwn (s := 20) rfl rfl rfl rfl rfl rfl o1 (fun w m => m.rdl (List.Mem.tail _ Zh) (fun h => nomatch h)) (ars_length _) (ars_one _) (fun h => nomatch h) (by decide) (by decide) (by simp only [i60]; omega) rfl rfl (x.length + 2) (ars (x ++ [markA, markA])) rfl (ars_app ..).symm (fun ob3 r3 k3 o3 => ?_)
 refine Z0 (Z5 rfl) rfl (Z6 ?_)
 (refine Z1 ?_; refine Z4 ?_)
 have hle := o3.le (by decide)
 refine Z2 (Z0 (Z3 rfl) rfl (Z0 (Z3 rfl) rfl (Z0 (RV.len rfl rfl) rfl (Z0 (RV.cut_o _ rfl rfl rfl rfl rfl (by omega)) rfl (Z0 (Z5 rfl) rfl (Z6 ?_))))))
 (refine Z1 ?_; refine CW.ret ?_)
 refine Z111 (rs := [.tmp 2]) [sl ob3 0 x.length k3] ((ob3, blk (ars (x ++ [markA, markA]) ++ r3) 60) :: [(some b2, blk (ars [markA, markA]) 60)]) rfl ?_ rfl ⟨ob3, k3, r3, rfl, o3, rfl, _, rfl⟩ (fun w m => m) _ (.inl rfl)
 exact ⟨rfl, trivial⟩
theorem waybillplay_StillHashes_does (w0 : World) (Φ : Ctx) (N : List Ent) (hΦ : ∀ w, Mem w0 w N → Φ w) (A : Option Addr) (c : Nat) (A1 : Option Addr) (c1 : Nat) (x : List (Vector (BitVec 8) 32)) (hg : ∀ j u, (u8s markH.toList)[j]? = some u → w0.cell? ⟨1, j, none⟩ = some u) (va : HRoom markH Φ A c x) (v1 : View Φ A1 x.length c1 32 (ars x)) :
  DoesG Tryd.prog 23 [.slice A x.length c, .slice A1 x.length c1] w0 [] N (fun v G => v = .bool true) := by
 have hm := View.mx va
 have hle := View.le va
 have hs := View.isSome va (by decide) (i := 0) (by omega)
 refine DoesG.enter Tryd.func23 rfl Tryd.ntmps23 rfl (M := N) rfl (Z4 (Z2 (Z0 (Z5 rfl) rfl (Z6 ?_))))
 (refine Z1 ?_; refine Z4 ?_; refine Z4 ?_)
 refine Z2 (Z0 (Z3 rfl) rfl (Z0 (RV.len rfl rfl) rfl (Z0 (Z3 rfl) rfl (Z0 (RV.len rfl rfl) rfl (Z0 (RV.neq_f rfl rfl (by omega)) rfl (Z6 (Z1 (CW.cond_f rfl ?_))))))))
 (refine CW.skip ?_; refine Z1 ?_; refine Z4 ?_)
 refine Z2 (Z0 (Z3 rfl) rfl (Z0 (Z3 rfl) rfl (Z0 (RV.len rfl rfl) rfl (Z0 (RV.add rfl rfl (by omega)) rfl (Z0 (RV.cut_hi (x.length + 2) rfl rfl (by omega) rfl rfl (by omega)) rfl (Z0 (Z5 rfl) rfl (Z6 ?_)))))))
 (refine Z1 ?_; refine Z4 ?_; refine Z4 ?_)
 refine Z2 (Z0 (Z5 rfl) rfl (Z6 ?_))
 (refine Z1 ?_; refine CW.block ?_)
 refine Z114 (fun k L' M' => ∃ (i : Nat), k = x.length - i ∧ i ≤ x.length ∧ L' = [(1, .slice A1 x.length c1), (5, .slice A (x.length + 2) c), (6, .int .i64 (i : Int))] ∧
  M' = N) (k0 := x.length) ⟨0, rfl, by omega, rfl, rfl⟩ ⟨rfl, rfl, rfl, trivial⟩ (fun w m => m) ?_
 rintro k L' M' ⟨i, rfl, hi, rfl, hM⟩
 rw [hM]
 clear hM M'
 (refine Z4 ?_; refine Z4 ?_)
 refine Z2 (Z0 (Z3 rfl) rfl (Z0 (Z3 rfl) rfl (Z0 (RV.len rfl rfl) rfl (Z0 (RV.lss rfl rfl) rfl (Z6 (Z1 ?_))))))
 refine CW.cond_p rfl (fun hlt2 => ?_) (fun hlt2 => ?_)
 ·have h1 : i < x.length := by omega
  have hx : x[i]? = some x[i] := List.getElem?_eq_getElem h1
  have hx2 : (x ++ [markH, markH])[i]? = some x[i] := by rw [List.getElem?_append_left h1]; exact hx
  have hs1 := v1.isSome (by decide) h1
  (refine CW.skip ?_; refine Z1 ?_; refine Z4 ?_; refine CW.block ?_; refine Z4 ?_)
  refine CW.drawsX N [] (fun w m => m) mixed (by kernel_rfl) (Z10 0 rfl (by kernel_rfl) rfl (Z3 rfl) rfl (Z10 1 rfl (by kernel_rfl) rfl (Z3 rfl) rfl (Z10 2 rfl (by kernel_rfl) rfl (Z103 (i) rfl rfl rfl rfl rfl hs (by omega)) rfl (Z10 3 rfl (by kernel_rfl) rfl (Z104 (vs := u8s (x[i]).toList) rfl rfl rfl rfl (fun w m => View.load va (hΦ w m) (ars_get hx2)) ((Z100 _).trans Zv)) rfl (Z10 4 rfl (by kernel_rfl) rfl (Z3 rfl) rfl (Z10 5 rfl (by kernel_rfl) rfl (Z3 rfl) rfl (Z10 6 rfl (by kernel_rfl) rfl (Z103 (i) rfl rfl rfl rfl rfl hs1 (by omega)) rfl ?_)))))))
  refine Z10 7 rfl (by kernel_rfl) rfl (Z104 (vs := u8s (x[i]).toList) rfl rfl rfl rfl (fun w m => v1.load (hΦ w m) (ars_get hx)) ((Z100 _).trans Zv)) rfl (Z10 8 rfl (by kernel_rfl) rfl (RV.neA8_f rfl rfl rfl rfl rfl rfl (Zv) rfl) rfl (XW.nil (by kernel_rfl) (Z1 (CW.cond_f rfl ?_))))
  (refine CW.skip ?_; refine Z27 ?_; refine Z1 ?_)
  refine Z2 (Z0 (Z3 rfl) rfl (Z0 (RV.add rfl rfl (by omega)) rfl (Z0 (Z5 rfl) rfl (Z6 ?_))))
  refine Z106 (k' := x.length - (i + 1)) (by omega) ⟨i + 1, rfl, by omega, rfl, rfl⟩ ⟨rfl, rfl, rfl, trivial⟩ (fun w m => m)
 ·have hx1 : (x ++ [markH, markH])[x.length]? = some markH := by simp
  have hx2 : (x ++ [markH, markH])[x.length + 1]? = some markH := by simp
  (refine CW.exit ?_; refine Z9 ?_; refine Z9 ?_; refine Z15 ?_; refine Z1 ?_; refine Z4 ?_)
  refine CW.drawsX N [] (fun w m => m) mixed (by kernel_rfl) (Z10 0 rfl (by kernel_rfl) rfl (Z3 rfl) rfl (Z10 1 rfl (by kernel_rfl) rfl (Z3 rfl) rfl (Z10 2 rfl (by kernel_rfl) rfl (RV.len rfl rfl) rfl (Z10 3 rfl (by kernel_rfl) rfl (Z103 (x.length) rfl rfl rfl rfl rfl hs (by omega)) rfl (Z10 4 rfl (by kernel_rfl) rfl (Z104 (vs := u8s markH.toList) rfl rfl rfl rfl (fun w m => View.load va (hΦ w m) (ars_get hx1)) ((Z100 _).trans Zv)) rfl ?_)))))
  refine Z10 5 rfl (by kernel_rfl) rfl (Z104 (vs := u8s markH.toList) (a := ⟨1, 0, none⟩) rfl rfl rfl rfl (fun w m j u hj => by rw [Z102, Nat.zero_add]; exact m.oldSome (hg j u hj)) ((Z100 _).trans Zv)) rfl ?_
  refine Z10 6 rfl (by kernel_rfl) rfl (RV.eqA8_t rfl rfl rfl rfl rfl rfl (Zv) rfl) rfl (Z10 7 rfl (by kernel_rfl) rfl (Z3 rfl) rfl (Z10 8 rfl (by kernel_rfl) rfl (Z3 rfl) rfl (Z10 9 rfl (by kernel_rfl) rfl (Z3 rfl) rfl (Z10 10 rfl (by kernel_rfl) rfl (RV.len rfl rfl) rfl (Z10 11 rfl (by kernel_rfl) rfl (RV.add rfl rfl (by omega)) rfl (Z10 12 rfl (by kernel_rfl) rfl (Z103 (x.length + 1) rfl rfl (by omega) rfl rfl hs (by omega)) rfl (Z10 13 rfl (by kernel_rfl) rfl (Z104 (vs := u8s markH.toList) rfl rfl rfl rfl (fun w m => View.load va (hΦ w m) (ars_get hx2)) ((Z100 _).trans Zv)) rfl ?_)))))))
  refine Z10 14 rfl (by kernel_rfl) rfl (Z104 (vs := u8s markH.toList) (a := ⟨1, 0, none⟩) rfl rfl rfl rfl (fun w m j u hj => by rw [Z102, Nat.zero_add]; exact m.oldSome (hg j u hj)) ((Z100 _).trans Zv)) rfl ?_
  refine Z10 15 rfl (by kernel_rfl) rfl (RV.eqA8_t rfl rfl rfl rfl rfl rfl (Zv) rfl) rfl (Z10 16 rfl (by kernel_rfl) rfl (Z112 rfl rfl rfl) rfl (Z10 17 rfl (by kernel_rfl) rfl (Z5 rfl) rfl (XW.nil (by kernel_rfl) ?_)))
  (refine Z1 ?_; refine CW.ret ?_)
  refine Z111 (rs := [.tmp 4]) [.bool true] [] rfl ?_ rfl rfl (fun w m => m) _ (.inl rfl)
  exact ⟨rfl, trivial⟩
theorem waybillplay_StillAddresses_does (w0 : World) (Φ : Ctx) (N : List Ent) (hΦ : ∀ w, Mem w0 w N → Φ w) (A : Option Addr) (c : Nat) (A1 : Option Addr) (c1 : Nat) (x : List (Vector (BitVec 8) 20)) (hg : ∀ j u, (u8s markA.toList)[j]? = some u → w0.cell? ⟨0, j, none⟩ = some u) (va : HRoom markA Φ A c x) (v1 : View Φ A1 x.length c1 20 (ars x)) :
  DoesG Tryd.prog 25 [.slice A x.length c, .slice A1 x.length c1] w0 [] N (fun v G => v = .bool true) := by
 have hm := View.mx va
 have hle := View.le va
 have hs := View.isSome va (by decide) (i := 0) (by omega)
 refine DoesG.enter Tryd.func25 rfl Tryd.ntmps25 rfl (M := N) rfl (Z4 (Z2 (Z0 (Z5 rfl) rfl (Z6 ?_))))
 (refine Z1 ?_; refine Z4 ?_; refine Z4 ?_)
 refine Z2 (Z0 (Z3 rfl) rfl (Z0 (RV.len rfl rfl) rfl (Z0 (Z3 rfl) rfl (Z0 (RV.len rfl rfl) rfl (Z0 (RV.neq_f rfl rfl (by omega)) rfl (Z6 (Z1 (CW.cond_f rfl ?_))))))))
 (refine CW.skip ?_; refine Z1 ?_; refine Z4 ?_)
 refine Z2 (Z0 (Z3 rfl) rfl (Z0 (Z3 rfl) rfl (Z0 (RV.len rfl rfl) rfl (Z0 (RV.add rfl rfl (by omega)) rfl (Z0 (RV.cut_hi (x.length + 2) rfl rfl (by omega) rfl rfl (by omega)) rfl (Z0 (Z5 rfl) rfl (Z6 ?_)))))))
 (refine Z1 ?_; refine Z4 ?_; refine Z4 ?_)
 refine Z2 (Z0 (Z5 rfl) rfl (Z6 ?_))
 (refine Z1 ?_; refine CW.block ?_)
 refine Z114 (fun k L' M' => ∃ (i : Nat), k = x.length - i ∧ i ≤ x.length ∧ L' = [(1, .slice A1 x.length c1), (5, .slice A (x.length + 2) c), (6, .int .i64 (i : Int))] ∧
  M' = N) (k0 := x.length) ⟨0, rfl, by omega, rfl, rfl⟩ ⟨rfl, rfl, rfl, trivial⟩ (fun w m => m) ?_
 rintro k L' M' ⟨i, rfl, hi, rfl, hM⟩
 rw [hM]
 clear hM M'
 (refine Z4 ?_; refine Z4 ?_)
 refine Z2 (Z0 (Z3 rfl) rfl (Z0 (Z3 rfl) rfl (Z0 (RV.len rfl rfl) rfl (Z0 (RV.lss rfl rfl) rfl (Z6 (Z1 ?_))))))
 refine CW.cond_p rfl (fun hlt2 => ?_) (fun hlt2 => ?_)
 ·have h1 : i < x.length := by omega
  have hx : x[i]? = some x[i] := List.getElem?_eq_getElem h1
  have hx2 : (x ++ [markA, markA])[i]? = some x[i] := by rw [List.getElem?_append_left h1]; exact hx
  have hs1 := v1.isSome (by decide) h1
  (refine CW.skip ?_; refine Z1 ?_; refine Z4 ?_; refine CW.block ?_; refine Z4 ?_)
  refine CW.drawsX N [] (fun w m => m) mixed (by kernel_rfl) (Z10 0 rfl (by kernel_rfl) rfl (Z3 rfl) rfl (Z10 1 rfl (by kernel_rfl) rfl (Z3 rfl) rfl (Z10 2 rfl (by kernel_rfl) rfl (Z103 (i) rfl rfl rfl rfl rfl hs (by omega)) rfl (Z10 3 rfl (by kernel_rfl) rfl (Z104 (vs := u8s (x[i]).toList) rfl rfl rfl rfl (fun w m => View.load va (hΦ w m) (ars_get hx2)) ((Z100 _).trans Zv)) rfl (Z10 4 rfl (by kernel_rfl) rfl (Z3 rfl) rfl (Z10 5 rfl (by kernel_rfl) rfl (Z3 rfl) rfl (Z10 6 rfl (by kernel_rfl) rfl (Z103 (i) rfl rfl rfl rfl rfl hs1 (by omega)) rfl ?_)))))))
  refine Z10 7 rfl (by kernel_rfl) rfl (Z104 (vs := u8s (x[i]).toList) rfl rfl rfl rfl (fun w m => v1.load (hΦ w m) (ars_get hx)) ((Z100 _).trans Zv)) rfl (Z10 8 rfl (by kernel_rfl) rfl (RV.neA8_f rfl rfl rfl rfl rfl rfl (Zv) rfl) rfl (XW.nil (by kernel_rfl) (Z1 (CW.cond_f rfl ?_))))
  (refine CW.skip ?_; refine Z27 ?_; refine Z1 ?_)
  refine Z2 (Z0 (Z3 rfl) rfl (Z0 (RV.add rfl rfl (by omega)) rfl (Z0 (Z5 rfl) rfl (Z6 ?_))))
  refine Z106 (k' := x.length - (i + 1)) (by omega) ⟨i + 1, rfl, by omega, rfl, rfl⟩ ⟨rfl, rfl, rfl, trivial⟩ (fun w m => m)
 ·have hx1 : (x ++ [markA, markA])[x.length]? = some markA := by simp
  have hx2 : (x ++ [markA, markA])[x.length + 1]? = some markA := by simp
  (refine CW.exit ?_; refine Z9 ?_; refine Z9 ?_; refine Z15 ?_; refine Z1 ?_; refine Z4 ?_)
  refine CW.drawsX N [] (fun w m => m) mixed (by kernel_rfl) (Z10 0 rfl (by kernel_rfl) rfl (Z3 rfl) rfl (Z10 1 rfl (by kernel_rfl) rfl (Z3 rfl) rfl (Z10 2 rfl (by kernel_rfl) rfl (RV.len rfl rfl) rfl (Z10 3 rfl (by kernel_rfl) rfl (Z103 (x.length) rfl rfl rfl rfl rfl hs (by omega)) rfl (Z10 4 rfl (by kernel_rfl) rfl (Z104 (vs := u8s markA.toList) rfl rfl rfl rfl (fun w m => View.load va (hΦ w m) (ars_get hx1)) ((Z100 _).trans Zv)) rfl ?_)))))
  refine Z10 5 rfl (by kernel_rfl) rfl (Z104 (vs := u8s markA.toList) (a := ⟨0, 0, none⟩) rfl rfl rfl rfl (fun w m j u hj => by rw [Z102, Nat.zero_add]; exact m.oldSome (hg j u hj)) ((Z100 _).trans Zv)) rfl ?_
  refine Z10 6 rfl (by kernel_rfl) rfl (RV.eqA8_t rfl rfl rfl rfl rfl rfl (Zv) rfl) rfl (Z10 7 rfl (by kernel_rfl) rfl (Z3 rfl) rfl (Z10 8 rfl (by kernel_rfl) rfl (Z3 rfl) rfl (Z10 9 rfl (by kernel_rfl) rfl (Z3 rfl) rfl (Z10 10 rfl (by kernel_rfl) rfl (RV.len rfl rfl) rfl (Z10 11 rfl (by kernel_rfl) rfl (RV.add rfl rfl (by omega)) rfl (Z10 12 rfl (by kernel_rfl) rfl (Z103 (x.length + 1) rfl rfl (by omega) rfl rfl hs (by omega)) rfl (Z10 13 rfl (by kernel_rfl) rfl (Z104 (vs := u8s markA.toList) rfl rfl rfl rfl (fun w m => View.load va (hΦ w m) (ars_get hx2)) ((Z100 _).trans Zv)) rfl ?_)))))))
  refine Z10 14 rfl (by kernel_rfl) rfl (Z104 (vs := u8s markA.toList) (a := ⟨0, 0, none⟩) rfl rfl rfl rfl (fun w m j u hj => by rw [Z102, Nat.zero_add]; exact m.oldSome (hg j u hj)) ((Z100 _).trans Zv)) rfl ?_
  refine Z10 15 rfl (by kernel_rfl) rfl (RV.eqA8_t rfl rfl rfl rfl rfl rfl (Zv) rfl) rfl (Z10 16 rfl (by kernel_rfl) rfl (Z112 rfl rfl rfl) rfl (Z10 17 rfl (by kernel_rfl) rfl (Z5 rfl) rfl (XW.nil (by kernel_rfl) ?_)))
  (refine Z1 ?_; refine CW.ret ?_)
  refine Z111 (rs := [.tmp 4]) [.bool true] [] rfl ?_ rfl rfl (fun w m => m) _ (.inl rfl)
  exact ⟨rfl, trivial⟩
theorem waybilllaw17_ReceiptFinds_does (w0 : World) (Φ : Ctx) (N : List Ent) (hΦ : ∀ w, Mem w0 w N → Φ w) (A0 : Option Addr) (c0 : Nat) (cs0 : List Value) (logs : List Log) (A1 : Option Addr) (c1 : Nat) (ad : List (Vector (BitVec 8) 20)) (A2 : Option Addr) (c2 : Nat) (cs2 : List Value) (tp : List (List (Vector (BitVec 8) 32))) (res : List Int)
  (v0 : View Φ A0 logs.length c0 22 cs0) (r0 : Reps (LogRd Φ) cs0 logs) (v1 : View Φ A1 ad.length c1 20 (ars ad)) (v2 : View Φ A2 tp.length c2 1 cs2) (r2 : Reps (HsRd Φ) cs2 tp)
  (hgH : ∀ j u, (u8s markH.toList)[j]? = some u → w0.cell? ⟨1, j, none⟩ = some u) (hgA : ∀ j u, (u8s markA.toList)[j]? = some u → w0.cell? ⟨0, j, none⟩ = some u)
  (htw : waybilllaw17_twin logs = some logs) (hla : lentAr ad = some ad) (hlt : ∀ x ∈ tp, lentAr x = some x) (htl : (tp.length + 1) * 24 ≤ 140737488355328) (hf1 : receipt_Find logs ad tp = some res) (hf2 : waybillref17_Find logs ad tp = some res) (hsl : waybilllaw17_stillLogs logs logs = some true) (hrl : (res.length + 3) * 8 ≤ 140737488355328) :
  DoesG Tryd.prog 4 [.slice A0 logs.length c0, .slice A1 ad.length c1, .slice A2 tp.length c2] w0 [] N (fun v G => v = .bool true) := by
 have hm2 := v2.mx
 refine DoesG.enter Tryd.func4 rfl Tryd.ntmps4 rfl (M := N) rfl (Z4 (Z2 (Z0 (Z5 rfl) rfl (Z6 ?_))))
 (refine Z1 ?_; refine Z4 ?_)
 refine Z2 (Z0 (Z3 rfl) rfl ?_)
 refine Z12 Tryd.call18 rfl (waybilllaw17_twin_does w0 Φ N hΦ A0 c0 cs0 logs logs v0 r0 htw) rfl rfl ?_; rintro _ GG ⟨B1, Ai, ki, hin, rfl, hG⟩; rw [hG]; clear hG GG
 refine Z0 (Z5 rfl) rfl (Z6 ?_)
 (refine Z1 ?_; refine Z4 ?_)
 generalize hN1 : B1 ++ N = N1
 have hin1 : LRooms (fun w => Mem w0 w N1) Ai ki logs := hin.mono (fun w m => ⟨hΦ w (by rw [← hN1] at m; exact m.appR), by rw [← hN1] at m; exact m.appL⟩)
 have hNN : ∀ w, Mem w0 w N1 → Mem w0 w N := fun w m => by rw [← hN1] at m; exact m.appR
 have hΦ1 : ∀ w, Mem w0 w N1 → Φ w := fun w m => hΦ w (by rw [← hN1] at m; exact m.appR)
 refine Z2 (Z0 (Z3 rfl) rfl ?_)
 refine Z12 Tryd.call19 rfl (waybillplay_LentAddresses_does w0 (fun w => Mem w0 w N1) N1 (fun w m => m) A1 c1 ad ad hgA (v1.mono hΦ1) hla) rfl rfl ?_; rintro _ GG ⟨o8, k8, r8, _, ow8, rfl, B2, hG⟩; rw [hG]; clear hG GG
 refine Z0 (Z5 rfl) rfl (Z6 ?_)
 (refine Z1 ?_; refine Z4 ?_)
 generalize hN2 : ((o8, blk (ars (ad ++ [markA, markA]) ++ r8) 60) :: B2) ++ N1 = N2
 have h21 : ∀ w, Mem w0 w N2 → Mem w0 w N1 := fun w m => by rw [← hN2] at m; exact m.appR
 have hin2 : LRooms (fun w => Mem w0 w N2) Ai ki logs := hin1.mono h21
 have hwho : HRoom markA (fun w => Mem w0 w N2) (o8.map fun k => ⟨k, 0, none⟩) k8 ad := ow8.view (te := 60) (w0 := w0) (by decide) (fun w q => by rw [← hN2] at q; exact q.sublist (List.singleton_sublist.2 (List.mem_cons_self ..)))
 have hΦ2 : ∀ w, Mem w0 w N2 → Φ w := fun w m => hΦ1 w (h21 w m)
 clear hN1 hN2
 refine Z2 (Z0 (Z3 rfl) rfl (Z0 (RV.len rfl rfl) rfl (Z0 (RV.add rfl rfl (by omega)) rfl (OW.make (tp.length + 1) (tp.length + 1) rfl rfl rfl rfl rfl rfl rfl rfl (by omega) (by simp only [i45]; omega) (by omega) rfl (fun b27 => (Z0 (Z5 rfl) rfl (Z6 ?_)))))))
 (refine Z1 ?_; refine Z4 ?_; refine Z4 ?_)
 refine Z2 (Z0 (Z5 rfl) rfl (Z6 ?_))
 (refine Z1 ?_; refine CW.block ?_)
 refine Z114 (fun k L' M' => ∃ (i : Nat) (cs : List Value) (B : List Ent), k = tp.length - i ∧ i ≤ tp.length ∧ cs.length = i ∧ Reps (HmRd (fun w => Mem w0 w (B ++ N2))) cs (tp.take i) ∧ L' = [(0, .slice A0 logs.length c0), (1, .slice A1 ad.length c1), (2, .slice A2 tp.length c2), (7, .slice Ai logs.length ki), (8, sl o8 0 ad.length k8), (9, sl (some b27) 0 (tp.length + 1) (tp.length + 1)), (10, .int .i64 (i : Int))] ∧
  M' = (some b27, blk (cs ++ (List.replicate (tp.length + 1 - i) (.slice none 0 0 : Value))) 45) :: (B ++ N2)) (k0 := tp.length) ⟨0, [], [], rfl, by omega, rfl, .nil, rfl, rfl⟩ ⟨rfl, rfl, rfl, rfl, rfl, rfl, rfl, trivial⟩ (fun w m => m) ?_
 rintro k L' M' ⟨i, cs, B, rfl, hi, hcl, hR, rfl, hM⟩
 rw [hM]
 clear hM M'
 (refine Z4 ?_; refine Z4 ?_)
 refine Z2 (Z0 (Z3 rfl) rfl (Z0 (Z3 rfl) rfl (Z0 (RV.len rfl rfl) rfl (Z0 (RV.lss rfl rfl) rfl (Z6 (Z1 ?_))))))
 refine CW.cond_p rfl (fun hlt2 => ?_) (fun hlt2 => ?_)
 ·have h1 : i < tp.length := by omega
  have hx : tp[i]? = some tp[i] := List.getElem?_eq_getElem h1
  obtain ⟨ci, ⟨At, ct, cst, rfl, vt, rt⟩, hcc⟩ := r2.get HsRd.len hx
  have hst := ars_of rt
  subst hst
  have hfx := hlt _ (List.getElem_mem h1)
  have hsome := v2.isSome (by decide) h1
  generalize hlx : tp[i] = lx at *
  (refine CW.skip ?_; refine Z1 ?_; refine Z4 ?_; refine CW.block ?_)
  refine Z2 (Z0 (Z3 rfl) rfl (Z0 (Z3 rfl) rfl (Z0 (Z3 rfl) rfl (Z0 (Z3 rfl) rfl (Z0 (Z119 (i) rfl rfl rfl rfl rfl hsome (by omega)) rfl ?_)))))
  refine Z0 (Z21 rfl rfl rfl (fun w m => by have := v2.load (hΦ2 w m.tail.appR) hcc 0 _ rfl; simpa [Addr.add] using this)) rfl ?_
  refine Z12 Tryd.call20 rfl (waybillplay_LentHashes_does w0 (fun w => Mem w0 w ((some b27, blk (cs ++ (List.replicate (tp.length + 1 - i) (.slice none 0 0 : Value))) 45) :: (B ++ N2))) ((some b27, blk (cs ++ (List.replicate (tp.length + 1 - i) (.slice none 0 0 : Value))) 45) :: (B ++ N2)) (fun w m => m) At ct lx lx hgH (vt.mono (fun w m => hΦ2 w m.tail.appR)) hfx) rfl rfl ?_; rintro _ GG ⟨o9, k9, r9, _, ow9, rfl, B9, hG⟩; rw [hG]; clear hG GG; refine Z20 (M' := (some b27, blk (cs ++ (List.replicate (tp.length + 1 - i) (.slice none 0 0 : Value))) 45) :: ((((o9, blk (ars (lx ++ [markH, markH]) ++ r9) 24) :: B9) ++ B) ++ N2)) (fun w m => by rw [List.append_assoc]; exact m.perm (List.perm_append_comm_assoc _ [_] _)) ?_
  refine Z0 (RV.idx_o (i) rfl rfl rfl rfl rfl rfl (by omega)) rfl ?_
  refine Z28 (SV.store rfl rfl rfl rfl rfl (by rw [List.length_append, List.length_replicate]; omega)) ?_; refine OW.cells ((cs ++ [sl o9 0 lx.length k9]) ++ (List.replicate (tp.length + 1 - (i + 1)) (.slice none 0 0 : Value))) (by rw [show tp.length + 1 - i = (tp.length + 1 - (i + 1)) + 1 by omega, List.replicate_succ, List.set_append_right _ _ (by omega), show 0 + i - cs.length = 0 by omega, List.set_cons_zero, List.append_assoc]; rfl) ?_
  refine Z6 ?_
  (refine Z27 ?_; refine Z1 ?_)
  refine Z2 (Z0 (Z3 rfl) rfl (Z0 (RV.add rfl rfl (by omega)) rfl (Z0 (Z5 rfl) rfl (Z6 ?_))))
  refine Z106 (k' := tp.length - (i + 1)) (by omega) ⟨i + 1, cs ++ [sl o9 0 lx.length k9], _, rfl, by omega, by rw [List.length_append, hcl]; rfl, ?_, rfl, rfl⟩ ⟨rfl, rfl, rfl, rfl, rfl, rfl, rfl, trivial⟩ (fun w m => m)
  rw [List.take_add_one, hx]
  refine (hR.mono (HmRd.mono (fun w m => by rw [List.append_assoc] at m; exact m.appR))).snoc ⟨_, _, rfl, ?_⟩
  exact ow9.view (te := 24) (w0 := w0) (by decide) (fun w q => q.sublist (List.singleton_sublist.2 (List.mem_cons_self ..)))
 ·have hie : i = tp.length := by omega
  subst hie
  rw [List.take_length] at hR
  rw [show tp.length + 1 - tp.length = 1 by omega]
  (refine CW.exit ?_; refine Z9 ?_; refine Z9 ?_; refine Z15 ?_; refine Z1 ?_; refine Z4 ?_)
  refine Z2 (Z0 (Z3 rfl) rfl (Z0 (Z3 rfl) rfl (Z0 (RV.len rfl rfl) rfl (Z0 (RV.buildA (l := List.replicate 32 (.int .u8 0)) (cs := u8s mk32.toList) rfl rfl rfl (by kernel_rfl) rfl rfl rfl) rfl ?_))))
  refine OW.ofN (NV.bsA (s := 32) (vss := [u8s mk32.toList]) (cs := u8s mk32.toList) rfl rfl (by intro q hq; obtain rfl := List.mem_singleton.1 hq; exact (Z100 _).trans Zv) rfl rfl rfl (by decide) (by decide) (List.append_nil _)) rfl (fun bm => ?_)
  refine Z0 (RV.idx_o (tp.length) rfl rfl rfl rfl rfl rfl (by omega)) rfl ?_
  refine OW.rot1 ?_; refine Z28 (SV.store rfl rfl rfl rfl rfl (by rw [List.length_append, List.length_replicate]; omega)) ?_; refine OW.cells (cs ++ [sl (some bm) 0 1 1]) (by rw [List.set_append_right _ _ (by omega), show 0 + tp.length - cs.length = 0 by omega]; rfl) ?_
  refine Z6 ?_
  (refine Z1 ?_; refine Z4 ?_)
  generalize hM3 : ((some b27, blk (cs ++ [sl (some bm) 0 1 1]) 45) :: (some bm, blk (u8s mk32.toList) 24) :: (B ++ N2)) = M3
  have h32 : ∀ w, Mem w0 w M3 → Mem w0 w N2 := fun w m => by rw [← hM3] at m; exact (m.drop 2).appR
  have h3B : ∀ w, Mem w0 w M3 → Mem w0 w (B ++ N2) := fun w m => by rw [← hM3] at m; exact m.drop 2
  have h3Φ : ∀ w, Mem w0 w M3 → Φ w := fun w m => hΦ2 w (h32 w m)
  have oo : OwnS (some b27) (tp.length + 1) (tp.length + 1) 1 (cs ++ [sl (some bm) 0 1 1]) [] := ⟨by rw [List.length_append, hcl, Nat.mul_one]; rfl, by rw [List.append_nil, List.length_append, hcl, Nat.mul_one]; rfl, (fun h => nomatch h), by omega⟩
  have hwt : View (fun w => Mem w0 w M3) (some ⟨b27, 0, none⟩) (tp.length + 1) (tp.length + 1) 1 (cs ++ [sl (some bm) 0 1 1]) := oo.view (te := 45) (w0 := w0) (by decide) (fun w q => by rw [List.append_nil]; rw [← hM3] at q; exact q.sublist (List.singleton_sublist.2 (List.mem_cons_self ..)))
  have hmk : View (fun w => Mem w0 w M3) (some ⟨bm, 0, none⟩) 1 1 32 (u8s mk32.toList) := (show OwnS (some bm) 1 1 32 (u8s mk32.toList) [] from ⟨(Z100 _).trans Zv, by rw [List.append_nil]; exact (Z100 _).trans Zv, (fun h => nomatch h), by omega⟩).view (te := 24) (w0 := w0) (by decide) (fun w q => by rw [List.append_nil]; rw [← hM3] at q; exact q.tail.sublist (List.singleton_sublist.2 (List.mem_cons_self ..)))
  have hwt1 : View (fun w => Mem w0 w M3) (some ⟨b27, 0, none⟩) tp.length (tp.length + 1) 1 cs := by
   have h1 := hwt.hi (k := tp.length) (by omega)
   rw [Nat.mul_one, List.take_append_of_le_length (by omega), List.take_of_length_le (by omega)] at h1
   exact h1
  have hR3 : Reps (HmRd (fun w => Mem w0 w M3)) cs tp := hR.mono (HmRd.mono h3B)
  have hR4 := hR3.mono HmRd.hs
  have hin3 := hin2.mono h32
  have hwho3 := hwho.mono h32
  obtain ⟨csi, vb, vi, ri⟩ := hin3.opn
  have rl := ri.mono LmRd.log
  clear hin hin1 hin2 hwho hR hM3
  refine Z2 (Z0 (Z3 rfl) rfl (Z0 (Z3 rfl) rfl (Z0 (Z3 rfl) rfl (Z0 (Z3 rfl) rfl (Z0 (RV.len rfl rfl) rfl (Z0 (RV.cut_o (tp.length) rfl rfl rfl rfl rfl (by omega)) rfl ?_))))))
  refine Z12 Tryd.call21 rfl (receipt_Find_does w0 (fun w => Mem w0 w M3) M3 (fun w m => m) Ai ki csi logs (o8.map fun k => ⟨k, 0, none⟩) k8 (ars ad) ad (some ⟨b27, 0, none⟩) (tp.length + 1) cs tp res vi rl hwho3.view (ars_reps _) hwt1 hR4 hf1) rfl rfl ?_; rintro _ GG ⟨B3, oa, ka, ra, owa, rfl, hG⟩; rw [hG]; clear hG GG
  refine Z0 (Z5 rfl) rfl (Z6 ?_)
  (refine Z1 ?_; refine Z4 ?_)
  generalize hM4 : ((oa, blk (i64s res ++ ra) 3) :: B3) ++ M3 = M4
  have h43 : ∀ w, Mem w0 w M4 → Mem w0 w M3 := fun w m => by rw [← hM4] at m; exact m.appR
  refine Z2 (Z0 (Z3 rfl) rfl (Z0 (Z3 rfl) rfl (Z0 (Z3 rfl) rfl (Z0 (Z3 rfl) rfl (Z0 (RV.len rfl rfl) rfl (Z0 (RV.cut_o (tp.length) rfl rfl rfl rfl rfl (by omega)) rfl ?_))))))
  refine Z12 Tryd.call21 rfl (receipt_Find_does w0 (fun w => Mem w0 w M4) M4 (fun w m => m) Ai ki csi logs (o8.map fun k => ⟨k, 0, none⟩) k8 (ars ad) ad (some ⟨b27, 0, none⟩) (tp.length + 1) cs tp res (vi.mono h43) (rl.mono (LogRd.mono h43)) (hwho3.view.mono h43) (ars_reps _) (hwt1.mono h43) (hR4.mono (HsRd.mono h43)) hf1) rfl rfl ?_; rintro _ GG ⟨B4, ob, kb, rb, owb, rfl, hG⟩; rw [hG]; clear hG GG
  refine Z0 (Z5 rfl) rfl (Z6 ?_)
  (refine Z1 ?_; refine Z4 ?_)
  generalize hM5 : ((ob, blk (i64s res ++ rb) 3) :: B4) ++ M4 = M5
  have h54 : ∀ w, Mem w0 w M5 → Mem w0 w M4 := fun w m => by rw [← hM5] at m; exact m.appR
  have h5Φ : ∀ w, Mem w0 w M5 → Φ w := fun w m => h3Φ w (h43 w (h54 w m))
  refine Z2 (Z0 (Z3 rfl) rfl (Z0 (Z3 rfl) rfl (Z0 (Z3 rfl) rfl ?_)))
  refine Z12 Tryd.call22 rfl (waybillref17_Find_does w0 (fun w => Mem w0 w M5) M5 (fun w m => m) A0 c0 cs0 logs A1 c1 (ars ad) ad A2 c2 cs2 tp res (v0.mono h5Φ) (r0.mono (LogRd.mono h5Φ)) (v1.mono h5Φ) (ars_reps _) (v2.mono h5Φ) (r2.mono (HsRd.mono h5Φ)) hf2) rfl rfl ?_; rintro _ GG ⟨B5, oc, kc, rc, owc, rfl, hG⟩; rw [hG]; clear hG GG
  refine Z0 (Z5 rfl) rfl (Z6 ?_)
  (refine Z1 ?_; refine Z4 ?_; refine Z4 ?_)
  have hma := owa.mx
  have hla := owa.le (by decide)
  have hlc := owc.le (by decide)
  refine Z2 (Z0 (Z3 rfl) rfl (Z0 (RV.len rfl rfl) rfl (Z0 (Z3 rfl) rfl (Z0 (RV.len rfl rfl) rfl (Z0 (RV.neq_f rfl rfl (by omega)) rfl (Z0 (Z3 rfl) rfl ?_))))))
  refine Z24 rfl ?_; refine Z0 (Z3 rfl) rfl ?_
  refine Z24 rfl ?_; refine Z0 (RV.len rfl rfl) rfl ?_
  refine Z24 rfl ?_; refine Z0 (Z3 rfl) rfl ?_
  refine Z24 rfl ?_; refine Z0 (RV.len rfl rfl) rfl ?_
  refine Z24 rfl ?_; refine Z0 (RV.neq_f rfl rfl (by omega)) rfl ?_
  refine Z0 (Z107 rfl rfl rfl) rfl (Z6 (Z1 (CW.cond_f rfl ?_)))
  refine CW.mem (M' := (oa, blk (i64s res ++ ra) 3) :: (ob, blk (i64s res ++ rb) 3) :: (oc, blk (i64s res ++ rc) 3) :: (B5 ++ (B4 ++ (B3 ++ M3)))) (fun w m => by
   rw [← hM5, ← hM4] at m
   have e : ((oc, blk (i64s res ++ rc) 3) :: B5) ++ (((ob, blk (i64s res ++ rb) 3) :: B4) ++ (((oa, blk (i64s res ++ ra) 3) :: B3) ++ M3)) = (oc, blk (i64s res ++ rc) 3) :: (B5 ++ ((ob, blk (i64s res ++ rb) 3) :: (B4 ++ ((oa, blk (i64s res ++ ra) 3) :: (B3 ++ M3))))) := by simp
   rw [e] at m
   have p : List.Perm ((oc, blk (i64s res ++ rc) 3) :: (B5 ++ ((ob, blk (i64s res ++ rb) 3) :: (B4 ++ ((oa, blk (i64s res ++ ra) 3) :: (B3 ++ M3)))))) ((oa, blk (i64s res ++ ra) 3) :: (ob, blk (i64s res ++ rb) 3) :: (oc, blk (i64s res ++ rc) 3) :: (B5 ++ (B4 ++ (B3 ++ M3)))) := by
    have q1 : List.Perm (B4 ++ ((oa, blk (i64s res ++ ra) 3) :: (B3 ++ M3))) ((oa, blk (i64s res ++ ra) 3) :: (B4 ++ (B3 ++ M3))) := List.perm_middle
    have q2 : List.Perm (B5 ++ ((ob, blk (i64s res ++ rb) 3) :: (B4 ++ ((oa, blk (i64s res ++ ra) 3) :: (B3 ++ M3))))) ((ob, blk (i64s res ++ rb) 3) :: (B5 ++ (B4 ++ ((oa, blk (i64s res ++ ra) 3) :: (B3 ++ M3))))) := List.perm_middle
    have q3 : List.Perm (B5 ++ ((oa, blk (i64s res ++ ra) 3) :: (B4 ++ (B3 ++ M3)))) ((oa, blk (i64s res ++ ra) 3) :: (B5 ++ (B4 ++ (B3 ++ M3)))) := List.perm_middle
    refine (List.Perm.cons _ q2).trans ?_
    refine (List.Perm.cons _ (List.Perm.cons _ (List.Perm.append_left B5 q1))).trans ?_
    refine (List.Perm.cons _ (List.Perm.cons _ q3)).trans ?_
    refine (List.Perm.cons _ (List.Perm.swap _ _ _)).trans ?_
    refine (List.Perm.swap _ _ _).trans ?_
    exact List.Perm.cons _ (List.Perm.swap _ _ _)
   exact m.perm p) ?_
  generalize hRR : B5 ++ (B4 ++ (B3 ++ M3)) = R
  have hR3' : ∀ w, Mem w0 w R → Mem w0 w M3 := fun w m => by rw [← hRR] at m; exact m.appR.appR.appR
  clear hRR hM4 hM5 h54 h43 h5Φ
  (refine CW.skip ?_; refine Z1 ?_; refine Z4 ?_; refine Z4 ?_)
  refine Z2 (Z0 (Z5 rfl) rfl (Z6 ?_))
  (refine Z1 ?_; refine CW.block ?_)
  refine Z114 (fun k L' M' => ∃ (i : Nat), k = res.length - i ∧ i ≤ res.length ∧ L' = [(0, .slice A0 logs.length c0), (1, .slice A1 ad.length c1), (2, .slice A2 tp.length c2), (7, .slice Ai logs.length ki), (8, sl o8 0 ad.length k8), (9, sl (some b27) 0 (tp.length + 1) (tp.length + 1)), (11, sl oa 0 res.length ka), (12, sl ob 0 res.length kb), (13, sl oc 0 res.length kc), (14, .int .i64 (i : Int))] ∧
   M' = (oa, blk (i64s (List.replicate i (-1) ++ res.drop i) ++ ra) 3) :: (ob, blk (i64s res ++ rb) 3) :: (oc, blk (i64s res ++ rc) 3) :: R) (k0 := res.length) ⟨0, rfl, by omega, rfl, rfl⟩ ⟨rfl, rfl, rfl, rfl, rfl, rfl, rfl, rfl, rfl, rfl, trivial⟩ (fun w m => m) ?_
  rintro k L' M' ⟨i, rfl, hi, rfl, hM⟩
  rw [hM]
  clear hM M'
  (refine Z4 ?_; refine Z4 ?_)
  refine Z2 (Z0 (Z3 rfl) rfl (Z0 (Z3 rfl) rfl (Z0 (RV.len rfl rfl) rfl (Z0 (RV.lss rfl rfl) rfl (Z6 (Z1 ?_))))))
  refine CW.cond_p rfl (fun hlt3 => ?_) (fun hlt3 => ?_)
  ·have h1 : i < res.length := by omega
   have hx : res[i]? = some res[i] := List.getElem?_eq_getElem h1
   have hxa : (List.replicate i (-1) ++ res.drop i)[i]? = some res[i] := by rw [List.getElem?_append_right (by rw [List.length_replicate]; omega), List.length_replicate, Nat.sub_self, List.getElem?_drop, Nat.add_zero]; exact hx
   have hsa := owa.isSome (by decide) h1
   have hsb := owb.isSome (by decide) h1
   have hsc := owc.isSome (by decide) h1
   (refine CW.skip ?_; refine Z1 ?_; refine Z4 ?_; refine CW.block ?_; refine Z4 ?_; refine Z4 ?_)
   refine CW.drawsX ((oa, blk (i64s (List.replicate i (-1) ++ res.drop i) ++ ra) 3) :: (ob, blk (i64s res ++ rb) 3) :: (oc, blk (i64s res ++ rc) 3) :: R) [] (fun w m => m) mixed (by kernel_rfl) (Z10 0 rfl (by kernel_rfl) rfl (Z3 rfl) rfl (Z10 1 rfl (by kernel_rfl) rfl (Z3 rfl) rfl (Z10 2 rfl (by kernel_rfl) rfl (RV.idx_o (i) rfl rfl rfl rfl rfl hsa (by omega)) rfl (Z10 3 rfl (by kernel_rfl) rfl (Z29 rfl Zh hsa rfl rfl (own_at0 (i64s_at hxa))) rfl (Z10 4 rfl (by kernel_rfl) rfl (Z3 rfl) rfl (Z10 5 rfl (by kernel_rfl) rfl (Z3 rfl) rfl (Z10 6 rfl (by kernel_rfl) rfl (RV.idx_o (i) rfl rfl rfl rfl rfl hsc (by omega)) rfl ?_)))))))
   refine Z10 7 rfl (by kernel_rfl) rfl (Z29 rfl (List.Mem.tail _ (List.Mem.tail _ Zh)) hsc rfl rfl (own_at0 (i64s_at hx))) rfl (Z10 8 rfl (by kernel_rfl) rfl (RV.neq_f rfl rfl rfl) rfl (Z10 9 rfl (by kernel_rfl) rfl (Z3 rfl) rfl (Z10 10 rfl (by kernel_rfl) rfl (Z3 rfl) rfl (Z10 11 rfl (by kernel_rfl) rfl (Z3 rfl) rfl (Z10 12 rfl (by kernel_rfl) rfl (RV.idx_o (i) rfl rfl rfl rfl rfl hsb (by omega)) rfl (Z10 13 rfl (by kernel_rfl) rfl (Z29 rfl (List.Mem.tail _ Zh) hsb rfl rfl (own_at0 (i64s_at hx))) rfl (Z10 14 rfl (by kernel_rfl) rfl (Z3 rfl) rfl ?_)))))))
   refine Z10 15 rfl (by kernel_rfl) rfl (Z3 rfl) rfl (Z10 16 rfl (by kernel_rfl) rfl (RV.idx_o (i) rfl rfl rfl rfl rfl hsc (by omega)) rfl (Z10 17 rfl (by kernel_rfl) rfl (Z29 rfl (List.Mem.tail _ (List.Mem.tail _ Zh)) hsc rfl rfl (own_at0 (i64s_at hx))) rfl (Z10 18 rfl (by kernel_rfl) rfl (RV.neq_f rfl rfl rfl) rfl (Z10 19 rfl (by kernel_rfl) rfl (Z107 rfl rfl rfl) rfl (XW.nil (by kernel_rfl) (Z1 (CW.cond_f rfl ?_)))))))
   (refine CW.skip ?_; refine Z1 ?_)
   refine Z2 (Z0 (Z3 rfl) rfl (Z0 (Z3 rfl) rfl (Z0 (RV.idx_o (i) rfl rfl rfl rfl rfl hsa (by omega)) rfl ?_)))
   refine Z28 (SV.store rfl hsa rfl rfl rfl (by rw [List.length_append, i64s_length, List.length_append, List.length_replicate, List.length_drop]; omega)) ?_; refine OW.cells (i64s (List.replicate (i + 1) (-1) ++ res.drop (i + 1)) ++ ra) (by rw [i64s_set_left (by rw [List.length_append, List.length_replicate, List.length_drop]; omega), List.set_append_right _ _ (by rw [List.length_replicate]; omega), List.length_replicate, Nat.sub_self, List.drop_eq_getElem_cons h1, List.set_cons_zero, List.replicate_succ', List.append_assoc]; rfl) ?_
   refine Z6 ?_
   (refine Z27 ?_; refine Z1 ?_)
   refine Z2 (Z0 (Z3 rfl) rfl (Z0 (RV.add rfl rfl (by omega)) rfl (Z0 (Z5 rfl) rfl (Z6 ?_))))
   refine Z106 (k' := res.length - (i + 1)) (by omega) ⟨i + 1, rfl, by omega, rfl, rfl⟩ ⟨rfl, rfl, rfl, rfl, rfl, rfl, rfl, rfl, rfl, rfl, trivial⟩ (fun w m => m)
  ·have hie : i = res.length := by omega
   subst hie
   rw [List.drop_length, List.append_nil]
   have owa2 : OwnS oa res.length ka 1 (i64s (List.replicate res.length (-1))) ra := ⟨by rw [i64s_length, List.length_replicate, Nat.mul_one], by have := owa.hr; rw [List.length_append, i64s_length] at this ⊢; rw [List.length_replicate]; exact this, owa.hn, owa.mx⟩
   (refine CW.exit ?_; refine Z9 ?_; refine Z9 ?_; refine Z15 ?_; refine Z1 ?_; refine Z4 ?_)
   refine Z2 (Z0 (Z3 rfl) rfl (OW.bsN (vs := i64s [-2, -2, -2]) rfl rfl rfl (by decide) (by decide) rfl rfl rfl rfl rfl (fun bn => ?_)))
   refine OW.rot1 ?_; refine OW.appendOwn (s := 1) rfl rfl rfl rfl rfl rfl owa2 (fun w m => m.rdl (List.Mem.tail _ Zh) (fun h => nomatch h)) rfl (i64s_one _) (fun h => nomatch h) (by decide) (by decide) (by simp only [i3]; omega) rfl rfl (res.length + 3) (i64s (List.replicate res.length (-1) ++ [-2, -2, -2])) rfl (i64s_app ..) (fun om rm km owm => ?_)
   refine Z0 (Z5 rfl) rfl (Z6 ?_)
   (refine Z1 ?_; refine Z4 ?_; refine Z4 ?_)
   refine CW.mem (M' := (om, blk (i64s (List.replicate res.length (-1) ++ [-2, -2, -2]) ++ rm) 3) :: (ob, blk (i64s res ++ rb) 3) :: (oc, blk (i64s res ++ rc) 3) :: R) (fun w m => m.pick [0, 2, 3] 4 rfl rfl) (Z2 (Z0 (Z5 rfl) rfl (Z6 ?_)))
   (refine Z1 ?_; refine CW.block ?_)
   refine Z114 (fun k L' M' => ∃ (i : Nat), k = res.length - i ∧ i ≤ res.length ∧ L' = [(0, .slice A0 logs.length c0), (1, .slice A1 ad.length c1), (2, .slice A2 tp.length c2), (7, .slice Ai logs.length ki), (8, sl o8 0 ad.length k8), (9, sl (some b27) 0 (tp.length + 1) (tp.length + 1)), (12, sl ob 0 res.length kb), (13, sl oc 0 res.length kc), (15, sl om 0 (res.length + 3) km), (16, .int .i64 (i : Int))] ∧
    M' = (om, blk (i64s (List.replicate res.length (-1) ++ [-2, -2, -2]) ++ rm) 3) :: (ob, blk (i64s res ++ rb) 3) :: (oc, blk (i64s res ++ rc) 3) :: R) (k0 := res.length) ⟨0, rfl, by omega, rfl, rfl⟩ ⟨rfl, rfl, rfl, rfl, rfl, rfl, rfl, rfl, rfl, rfl, trivial⟩ (fun w m => m) ?_
   rintro k L' M' ⟨i, rfl, hi, rfl, hM⟩
   rw [hM]
   clear hM M'
   (refine Z4 ?_; refine Z4 ?_)
   refine Z2 (Z0 (Z3 rfl) rfl (Z0 (Z3 rfl) rfl (Z0 (RV.len rfl rfl) rfl (Z0 (RV.lss rfl rfl) rfl (Z6 (Z1 ?_))))))
   refine CW.cond_p rfl (fun hlt4 => ?_) (fun hlt4 => ?_)
   ·have h1 : i < res.length := by omega
    have hx : res[i]? = some res[i] := List.getElem?_eq_getElem h1
    have hxm : (List.replicate res.length (-1 : Int) ++ [-2, -2, -2])[i]? = some (-1) := by rw [List.getElem?_append_left (by rw [List.length_replicate]; omega), List.getElem?_replicate, if_pos h1]
    have hsm := owm.isSome (by decide) (i := i) (by omega)
    have hsb := owb.isSome (by decide) h1
    have hsc := owc.isSome (by decide) h1
    (refine CW.skip ?_; refine Z1 ?_; refine Z4 ?_; refine CW.block ?_; refine Z4 ?_)
    refine CW.drawsX ((om, blk (i64s (List.replicate res.length (-1) ++ [-2, -2, -2]) ++ rm) 3) :: (ob, blk (i64s res ++ rb) 3) :: (oc, blk (i64s res ++ rc) 3) :: R) [] (fun w m => m) mixed (by kernel_rfl) (Z10 0 rfl (by kernel_rfl) rfl (Z3 rfl) rfl (Z10 1 rfl (by kernel_rfl) rfl (Z3 rfl) rfl (Z10 2 rfl (by kernel_rfl) rfl (RV.idx_o (i) rfl rfl rfl rfl rfl hsb (by omega)) rfl (Z10 3 rfl (by kernel_rfl) rfl (Z29 rfl (List.Mem.tail _ Zh) hsb rfl rfl (own_at0 (i64s_at hx))) rfl (Z10 4 rfl (by kernel_rfl) rfl (Z3 rfl) rfl (Z10 5 rfl (by kernel_rfl) rfl (Z3 rfl) rfl (Z10 6 rfl (by kernel_rfl) rfl (RV.idx_o (i) rfl rfl rfl rfl rfl hsc (by omega)) rfl ?_)))))))
    refine Z10 7 rfl (by kernel_rfl) rfl (Z29 rfl (List.Mem.tail _ (List.Mem.tail _ Zh)) hsc rfl rfl (own_at0 (i64s_at hx))) rfl (Z10 8 rfl (by kernel_rfl) rfl (RV.neq_f rfl rfl rfl) rfl (Z10 9 rfl (by kernel_rfl) rfl (Z3 rfl) rfl (Z10 10 rfl (by kernel_rfl) rfl (Z3 rfl) rfl (Z10 11 rfl (by kernel_rfl) rfl (Z3 rfl) rfl (Z10 12 rfl (by kernel_rfl) rfl (RV.idx_o (i) rfl rfl rfl rfl rfl hsm (by omega)) rfl (Z10 13 rfl (by kernel_rfl) rfl (Z29 rfl Zh hsm rfl rfl (own_at0 (i64s_at hxm))) rfl (Z10 14 rfl (by kernel_rfl) rfl (RV.neq_f rfl rfl rfl) rfl ?_)))))))
    refine Z10 15 rfl (by kernel_rfl) rfl (Z107 rfl rfl rfl) rfl (XW.nil (by kernel_rfl) (Z1 (CW.cond_f rfl ?_)))
    (refine CW.skip ?_; refine Z27 ?_; refine Z1 ?_)
    refine Z2 (Z0 (Z3 rfl) rfl (Z0 (RV.add rfl rfl (by omega)) rfl (Z0 (Z5 rfl) rfl (Z6 ?_))))
    refine Z106 (k' := res.length - (i + 1)) (by omega) ⟨i + 1, rfl, by omega, rfl, rfl⟩ ⟨rfl, rfl, rfl, rfl, rfl, rfl, rfl, rfl, rfl, rfl, trivial⟩ (fun w m => m)
   ·skip
    refine CW.mem (M' := R) (fun w m => m.drop 3) ?_
    (repeat (first | refine Z4 ?_ | refine Z1 ?_ | refine CW.block ?_ | refine CW.ret ?_ | refine CW.skip ?_ | refine CW.exit ?_ | refine Z9 ?_ | refine Z8 ?_ | refine Z27 ?_ | refine Z15 ?_ | refine QW.block_xn rfl ?_ | refine Z16 ?_))
    refine Z2 (Z0 (Z5 rfl) rfl (Z6 ?_))
    (refine Z1 ?_; refine CW.block ?_)
    refine Z114 (fun k L' M' => ∃ (i : Nat), k = tp.length - i ∧ i ≤ tp.length ∧ L' = [(0, .slice A0 logs.length c0), (1, .slice A1 ad.length c1), (2, .slice A2 tp.length c2), (7, .slice Ai logs.length ki), (8, sl o8 0 ad.length k8), (9, sl (some b27) 0 (tp.length + 1) (tp.length + 1)), (17, .int .i64 (i : Int))] ∧ M' = R) (k0 := tp.length) ⟨0, rfl, by omega, rfl, rfl⟩ ⟨rfl, rfl, rfl, rfl, rfl, rfl, rfl, trivial⟩ (fun w m => m) ?_
    rintro k L' M' ⟨i, rfl, hi, rfl, hM⟩
    rw [hM]
    clear hM M'
    (refine Z4 ?_; refine Z4 ?_)
    refine Z2 (Z0 (Z3 rfl) rfl (Z0 (Z3 rfl) rfl (Z0 (RV.len rfl rfl) rfl (Z0 (RV.lss rfl rfl) rfl (Z6 (Z1 ?_))))))
    refine CW.cond_p rfl (fun hlt5 => ?_) (fun hlt5 => ?_)
    ·have h1 : i < tp.length := by omega
     have hx : tp[i]? = some tp[i] := List.getElem?_eq_getElem h1
     obtain ⟨ci, ⟨At, ct, cst, rfl, vt, rt⟩, hcc⟩ := r2.get HsRd.len hx
     have hst := ars_of rt
     subst hst
     obtain ⟨cj, ⟨Aj, cpj, rfl, vj⟩, hcj⟩ := hR3.get HmRd.len hx
     have hsome := v2.isSome (by decide) h1
     generalize hlx : tp[i] = lx at *
     (refine CW.skip ?_; refine Z1 ?_; refine Z4 ?_; refine CW.block ?_; refine Z4 ?_)
     refine CW.drawsX R [] (fun w m => m) mixed (by kernel_rfl) (Z10 0 rfl (by kernel_rfl) rfl (Z3 rfl) rfl (Z10 1 rfl (by kernel_rfl) rfl (Z3 rfl) rfl (Z10 2 rfl (by kernel_rfl) rfl (Z119 (A := some ⟨b27, 0, none⟩) (i) rfl rfl rfl rfl rfl rfl (by omega)) rfl ?_)))
     refine Z10 3 rfl (by kernel_rfl) rfl (Z21 rfl rfl rfl (fun w m => by have := hwt1.load (hR3' w m) hcj 0 _ rfl; simpa [Addr.add] using this)) rfl ?_
     refine Z10 4 rfl (by kernel_rfl) rfl (Z3 rfl) rfl (Z10 5 rfl (by kernel_rfl) rfl (Z3 rfl) rfl (Z10 6 rfl (by kernel_rfl) rfl (Z119 (i) rfl rfl rfl rfl rfl hsome (by omega)) rfl ?_))
     refine Z10 7 rfl (by kernel_rfl) rfl (Z21 rfl rfl rfl (fun w m => by have := v2.load (h3Φ w (hR3' w m)) hcc 0 _ rfl; simpa [Addr.add] using this)) rfl ?_
     refine Z11 8 rfl (by kernel_rfl) rfl Tryd.call23 rfl (fun N' hN' => waybillplay_StillHashes_does w0 (fun w => Mem w0 w M3) N' (fun w m => hR3' w (hN' w m)) Aj cpj At ct lx hgH vj (vt.mono h3Φ)) rfl ?_
     rintro _ G2 rfl
     refine Z19 (M' := R) (fun w m => m.appR) (fun w m => m) (Z10 9 rfl (by kernel_rfl) rfl (Z5 rfl) rfl (XW.nil (by kernel_rfl) ?_))
     (refine Z1 ?_; refine Z4 ?_)
     refine Z2 (Z0 (Z3 rfl) rfl (Z0 (RV.not rfl) rfl (Z6 (Z1 (CW.cond_f rfl ?_)))))
     (refine CW.skip ?_; refine Z27 ?_; refine Z1 ?_)
     refine Z2 (Z0 (Z3 rfl) rfl (Z0 (RV.add rfl rfl (by omega)) rfl (Z0 (Z5 rfl) rfl (Z6 ?_))))
     refine Z106 (k' := tp.length - (i + 1)) (by omega) ⟨i + 1, rfl, by omega, rfl, rfl⟩ ⟨rfl, rfl, rfl, rfl, rfl, rfl, rfl, trivial⟩ (fun w m => m)
    ·have hlast : (cs ++ [sl (some bm) 0 1 1])[tp.length]? = some (sl (some bm) 0 1 1) := by rw [List.getElem?_append_right (by omega), hcl, Nat.sub_self]; rfl
     (refine CW.exit ?_; refine Z9 ?_; refine Z9 ?_; refine Z15 ?_; refine Z1 ?_; refine Z4 ?_)
     refine Z2 (Z0 (Z3 rfl) rfl (Z0 (Z3 rfl) rfl (Z0 (RV.len rfl rfl) rfl (Z0 (Z119 (A := some ⟨b27, 0, none⟩) (tp.length) rfl rfl rfl rfl rfl rfl (by omega)) rfl (Z0 (Z21 rfl rfl rfl (fun w m => hwt.cell (hR3' w m) hlast)) rfl (Z0 (Z5 rfl) rfl (Z6 ?_)))))))
     (refine Z1 ?_; refine Z4 ?_)
     refine Z2 (Z0 (Z3 rfl) rfl (Z0 (Z3 rfl) rfl (Z12 Tryd.call24 rfl (waybilllaw17_stillLogs_does w0 (fun w => Mem w0 w M3) R hR3' Ai ki logs A0 c0 cs0 logs true hin3 (v0.mono h3Φ) (r0.mono (LogRd.mono h3Φ)) hsl) rfl rfl ?_)))
     rintro _ G1 rfl
     refine Z20 (M' := R) (fun w m => m.appR) (Z0 (Z3 rfl) rfl (Z24 rfl (Z0 (Z3 rfl) rfl (Z24 rfl (Z0 (Z3 rfl) rfl (Z24 rfl (Z12 Tryd.call25 rfl (waybillplay_StillAddresses_does w0 (fun w => Mem w0 w M3) R hR3' (o8.map fun k => ⟨k, 0, none⟩) k8 A1 c1 ad hgA hwho3 (v1.mono h3Φ)) rfl rfl ?_)))))))
     rintro _ G2 rfl
     refine Z20 (M' := R) (fun w m => m.appR) (Z0 (Z112 rfl rfl rfl) rfl (Z0 (Z3 rfl) rfl (Z24 rfl (Z0 (Z3 rfl) rfl (Z24 rfl (Z0 (RV.len rfl rfl) rfl (Z24 rfl ?_)))))))
     refine Z0 (RV.eql_t rfl rfl rfl) rfl (Z0 (Z112 rfl rfl rfl) rfl (Z0 (Z3 rfl) rfl (Z24 rfl (Z0 (Z3 rfl) rfl (Z24 rfl (Z0 (Z103 (A := some ⟨bm, 0, none⟩) 0 rfl rfl rfl rfl rfl rfl (by omega)) rfl (Z24 rfl ?_)))))))
     refine Z0 (Z104 (vs := u8s mk32.toList) rfl rfl rfl rfl (fun w m => hmk.load (hR3' w m) (off := 0) (fun j u hj => by rw [Nat.zero_add]; exact hj)) ((Z100 _).trans Zv)) rfl ?_
     refine Z24 rfl (Z0 (RV.buildA (l := List.replicate 32 (.int .u8 0)) (cs := u8s mk32.toList) rfl rfl rfl (by kernel_rfl) rfl rfl rfl) rfl (Z24 rfl (Z0 (RV.eqA8_t rfl rfl rfl rfl rfl rfl (Zv) rfl) rfl (Z0 (Z112 rfl rfl rfl) rfl (Z0 (Z5 rfl) rfl (Z6 ?_))))))
     (refine Z1 ?_; refine CW.ret ?_)
     refine Z111 (rs := [.tmp 6]) [.bool true] [] rfl ?_ rfl rfl (fun w m => hNN w (h21 w (h32 w (hR3' w m)))) _ (.inl rfl)
     exact ⟨rfl, trivial⟩
end Go.Fw.Tryd
namespace Go.Fw
open Classical
theorem fAmongA_l1 (a : List (Vector (BitVec 8) 20)) (x : Vector (BitVec 8) 20) : ∀ (k i : Nat), i ≤ a.length → a.length - i < k → receipt_among_Address.l1 a x k i = some (if x ∈ a.drop i then Lp.ret (some true) else Lp.go ())
 | 0, i, h1, h2 => by omega
 | k + 1, i, h1, h2 => by
  rw [receipt_among_Address.l1]
  by_cases h : i < a.length
  ·rw [if_pos h, List.getElem?_eq_getElem h, Zb, List.drop_eq_getElem_cons h]
   by_cases e : x = a[i]
   ·rw [if_pos e, if_pos (List.mem_cons.2 (.inl e))]
   ·rw [if_neg e, fAmongA_l1 a x k (i + 1) (by omega) (by omega)]
    simp only [List.mem_cons, e, false_or]
  ·rw [if_neg h, List.drop_of_length_le (by omega), if_neg (List.not_mem_nil)]
theorem fAmongA_eq (a : List (Vector (BitVec 8) 20)) (x : Vector (BitVec 8) 20) : receipt_among_Address a x = some (decide (x ∈ a)) := by
 unfold receipt_among_Address
 rw [fAmongA_l1 a x _ 0 (by omega) (by omega), Zb, List.drop_zero]
 by_cases h : x ∈ a
 ·rw [if_pos h, decide_eq_true h]
 ·rw [if_neg h, decide_eq_false h]
theorem fAmongH_l1 (a : List (Vector (BitVec 8) 32)) (x : Vector (BitVec 8) 32) : ∀ (k i : Nat), i ≤ a.length → a.length - i < k → receipt_among_Hash.l1 a x k i = some (if x ∈ a.drop i then Lp.ret (some true) else Lp.go ())
 | 0, i, h1, h2 => by omega
 | k + 1, i, h1, h2 => by
  rw [receipt_among_Hash.l1]
  by_cases h : i < a.length
  ·rw [if_pos h, List.getElem?_eq_getElem h, Zb, List.drop_eq_getElem_cons h]
   by_cases e : x = a[i]
   ·rw [if_pos e, if_pos (List.mem_cons.2 (.inl e))]
   ·rw [if_neg e, fAmongH_l1 a x k (i + 1) (by omega) (by omega)]
    simp only [List.mem_cons, e, false_or]
  ·rw [if_neg h, List.drop_of_length_le (by omega), if_neg (List.not_mem_nil)]
theorem fAmongH_eq (a : List (Vector (BitVec 8) 32)) (x : Vector (BitVec 8) 32) : receipt_among_Hash a x = some (decide (x ∈ a)) := by
 unfold receipt_among_Hash
 rw [fAmongH_l1 a x _ 0 (by omega) (by omega), Zb, List.drop_zero]
 by_cases h : x ∈ a
 ·rw [if_pos h, decide_eq_true h]
 ·rw [if_neg h, decide_eq_false h]
def Tk (x : Log) (tp : List (List (Vector (BitVec 8) 32))) (n : Nat) : Prop := ∀ k t, n ≤ k → tp[k]? = some t → t = [] ∨ ∃ y, x.topics[k]? = some y ∧ y ∈ t
theorem Tk.end {x : Log} {tp : List (List (Vector (BitVec 8) 32))} {n : Nat} (h : tp.length ≤ n) : Tk x tp n := fun k t h1 h2 => by
 have := (List.getElem?_eq_some_iff.1 h2).1
 omega
theorem Tk.step {x : Log} {tp : List (List (Vector (BitVec 8) 32))} {n : Nat} {t : List (Vector (BitVec 8) 32)} (h : tp[n]? = some t) : Tk x tp n ↔ (t = [] ∨ ∃ y, x.topics[n]? = some y ∧ y ∈ t) ∧ Tk x tp (n + 1) :=
 ⟨fun q => ⟨q n t (Nat.le_refl _) h, fun k u h1 h2 => q k u (by omega) h2⟩, fun ⟨q1, q2⟩ k u h1 h2 => by
  rcases Nat.eq_or_lt_of_le h1 with rfl | h1
  ·rw [h] at h2; obtain rfl := Zi h2; exact q1
  ·exact q2 k u h1 h2⟩
theorem find_l2 (tp : List (List (Vector (BitVec 8) 32))) (x : Log) (hl : tp.length ≤ x.topics.length) : ∀ (k n : Nat), n ≤ tp.length → tp.length - n < k → receipt_Find.l2 tp x k n = some (if Tk x tp n then Lq.go () else Lq.out)
 | 0, n, h1, h2 => by omega
 | k + 1, n, h1, h2 => by
  rw [receipt_Find.l2]
  by_cases h : n < tp.length
  ·have hx : tp[n]? = some tp[n] := List.getElem?_eq_getElem h
   have ht : x.topics[n]? = some x.topics[n] := List.getElem?_eq_getElem (by omega)
   rw [if_pos h, hx, Zb, ht]
   have hs := Tk.step (x := x) hx
   have ih := find_l2 tp x hl k (n + 1) (by omega) (by omega)
   by_cases h0 : 0 < tp[n].length
   ·have hne : tp[n] ≠ [] := fun e => by rw [e] at h0; exact absurd h0 (by simp)
    rw [if_pos h0, Zb, fAmongH_eq, Zb, Zb]
    by_cases hm : x.topics[n] ∈ tp[n]
    ·rw [decide_eq_true hm, if_neg (by decide), ih]
     have : Tk x tp n ↔ Tk x tp (n + 1) := by rw [hs]; exact ⟨fun q => q.2, fun q => ⟨.inr ⟨_, ht, hm⟩, q⟩⟩
     simp only [this]
    ·rw [decide_eq_false hm, if_pos (by decide)]
     have : ¬ Tk x tp n := by
      rw [hs]
      rintro ⟨q | ⟨y, q1, q2⟩, _⟩
      ·exact hne q
      ·rw [ht] at q1; obtain rfl := Zi q1; exact hm q2
     rw [if_neg this]
   ·have hne : tp[n] = [] := List.length_eq_zero_iff.1 (by omega)
    rw [if_neg h0, Zb, if_neg (by decide), ih]
    have : Tk x tp n ↔ Tk x tp (n + 1) := by rw [hs]; exact ⟨fun q => q.2, fun q => ⟨.inl hne, q⟩⟩
    simp only [this]
  ·rw [if_neg h, if_pos (Tk.end (by omega))]
def TakesP (x : Log) (ad : List (Vector (BitVec 8) 20)) (tp : List (List (Vector (BitVec 8) 32))) : Prop := (ad = [] ∨ x.address ∈ ad) ∧ tp.length ≤ x.topics.length ∧ Tk x tp 0
theorem takes_l2 (x : Log) (tp : List (List (Vector (BitVec 8) 32))) (n : Nat) (t : List (Vector (BitVec 8) 32)) (y : Vector (BitVec 8) 32) (ht : tp[n]? = some t) (hy : x.topics[n]? = some y) : ∀ (k : Nat) (p : Bool) (i : Nat), i ≤ t.length → t.length - i < k → waybillref17_takes.l2 x tp n k p i = some (p || decide (y ∈ t.drop i))
 | 0, p, i, h1, h2 => by omega
 | k + 1, p, i, h1, h2 => by
  rw [waybillref17_takes.l2, ht, Zb]
  by_cases h : i < t.length
  ·rw [if_pos h, Zb, List.getElem?_eq_getElem h, Zb, hy, Zb, List.drop_eq_getElem_cons h]
   cases p with
   | true => rw [if_pos rfl, Zb, takes_l2 x tp n t y ht hy k _ _ (by omega) (by omega)]; simp
   | false =>
    rw [if_neg (by decide), Zb, takes_l2 x tp n t y ht hy k _ _ (by omega) (by omega)]
    simp only [List.mem_cons, Bool.false_or, Bool.decide_or]
    rw [show decide (t[i] = y) = decide (y = t[i]) from decide_eq_decide.2 ⟨Eq.symm, Eq.symm⟩]
  ·rw [if_neg h, List.drop_of_length_le (by omega)]; simp
theorem takes_l1 (x : Log) (tp : List (List (Vector (BitVec 8) 32))) (hl : tp.length ≤ x.topics.length) : ∀ (k n : Nat), n ≤ tp.length → tp.length - n < k → waybillref17_takes.l1 x tp k n = some (if Tk x tp n then Lp.go () else Lp.ret (some false))
 | 0, n, h1, h2 => by omega
 | k + 1, n, h1, h2 => by
  rw [waybillref17_takes.l1]
  by_cases h : n < tp.length
  ·have hx : tp[n]? = some tp[n] := List.getElem?_eq_getElem h
   have ht : x.topics[n]? = some x.topics[n] := List.getElem?_eq_getElem (by omega)
   have hs := Tk.step (x := x) hx
   have ih := takes_l1 x tp hl k (n + 1) (by omega) (by omega)
   rw [if_pos h, hx, Zb, Option.elim_some, takes_l2 x tp n _ _ hx ht _ _ _ (by omega) (by omega), Zb, List.drop_zero, ih]
   by_cases hq : (tp[n] = [] ∨ x.topics[n] ∈ tp[n])
   ·have hb : (decide (tp[n].length = 0) || decide (x.topics[n] ∈ tp[n])) = true := by
     rcases hq with hq | hq
     ·simp [hq]
     ·simp [hq]
    have : Tk x tp n ↔ Tk x tp (n + 1) := by
     rw [hs]
     exact ⟨fun q => q.2, fun q => ⟨hq.imp id (fun hq => ⟨_, ht, hq⟩), q⟩⟩
    rw [if_pos hb]
    simp only [this]
   ·rw [not_or] at hq
    have hb : (decide (tp[n].length = 0) || decide (x.topics[n] ∈ tp[n])) = false := by
     rw [decide_eq_false hq.2, decide_eq_false (fun e => hq.1 (List.length_eq_zero_iff.1 e))]; rfl
    have : ¬ Tk x tp n := by
     rw [hs]
     rintro ⟨q | ⟨y, q1, q2⟩, _⟩
     ·exact hq.1 q
     ·rw [ht] at q1; obtain rfl := Zi q1; exact hq.2 q2
    rw [hb, if_neg (by decide), if_neg this]
  ·rw [if_neg h, if_pos (Tk.end (by omega))]
theorem takes_l3 (x : Log) (ad : List (Vector (BitVec 8) 20)) : ∀ (k : Nat) (p : Bool) (i : Nat), i ≤ ad.length → ad.length - i < k → waybillref17_takes.l3 x ad k p i = some (p || decide (x.address ∈ ad.drop i))
 | 0, p, i, h1, h2 => by omega
 | k + 1, p, i, h1, h2 => by
  rw [waybillref17_takes.l3]
  by_cases h : i < ad.length
  ·rw [if_pos h, List.getElem?_eq_getElem h, Zb, List.drop_eq_getElem_cons h]
   cases p with
   | true => rw [if_pos rfl, Zb, takes_l3 x ad k _ _ (by omega) (by omega)]; simp
   | false =>
    rw [if_neg (by decide), Zb, takes_l3 x ad k _ _ (by omega) (by omega)]
    simp only [List.mem_cons, Bool.false_or, Bool.decide_or]
    rw [show decide (ad[i] = x.address) = decide (x.address = ad[i]) from decide_eq_decide.2 ⟨Eq.symm, Eq.symm⟩]
  ·rw [if_neg h, List.drop_of_length_le (by omega)]; simp
theorem takes_eq (x : Log) (ad : List (Vector (BitVec 8) 20)) (tp : List (List (Vector (BitVec 8) 32))) : waybillref17_takes x ad tp = some (decide (TakesP x ad tp)) := by
 unfold waybillref17_takes
 rw [takes_l3 x ad _ _ 0 (by omega) (by omega), Zb, List.drop_zero]
 by_cases ha : ad = [] ∨ x.address ∈ ad
 ·have hb : (decide (ad.length = 0) || decide (x.address ∈ ad)) = true := by
   rcases ha with h | h
   ·simp [h]
   ·simp [h]
  rw [hb, if_pos rfl, Zb]
  by_cases hl : tp.length ≤ x.topics.length
  ·rw [decide_eq_false (by omega), if_neg (by decide), takes_l1 x tp hl _ 0 (by omega) (by omega), Zb]
   by_cases ht : Tk x tp 0
   ·rw [if_pos ht, decide_eq_true ⟨ha, hl, ht⟩]
   ·rw [if_neg ht, decide_eq_false (fun q => ht q.2.2)]
  ·rw [decide_eq_true (by omega), if_pos rfl, decide_eq_false (fun q => hl q.2.1)]
 ·have hb : (decide (ad.length = 0) || decide (x.address ∈ ad)) = false := by
   rw [not_or] at ha
   rw [decide_eq_false ha.2, decide_eq_false (fun e => ha.1 (List.length_eq_zero_iff.1 e))]; rfl
  rw [hb, if_neg (by decide), Zb, if_pos rfl, decide_eq_false (fun q => ha q.1)]
theorem finds_l1 (logs : List Log) (ad : List (Vector (BitVec 8) 20)) (tp : List (List (Vector (BitVec 8) 32))) : ∀ (k : Nat) (l : List Int) (i : Nat), i ≤ logs.length → logs.length - i < k → (l.length + (logs.length - i)) * 8 ≤ 140737488355328 →
  ∃ r, receipt_Find.l1 logs ad tp k l i = some r ∧ waybillref17_Find.l1 logs ad tp k l i = some r ∧ r.length ≤ l.length + (logs.length - i)
 | 0, l, i, h1, h2, h3 => by omega
 | k + 1, l, i, h1, h2, h3 => by
  rw [receipt_Find.l1, waybillref17_Find.l1]
  by_cases h : i < logs.length
  ·rw [if_pos h, if_pos h, List.getElem?_eq_getElem h, Zb, Zb, takes_eq, Zb]
   obtain ⟨r1, p1, p2, p3⟩ := finds_l1 logs ad tp k l (i + 1) (by omega) (by omega) (by omega)
   have h4 : (l ++ [(i : Int)]).length = l.length + 1 := by simp
   obtain ⟨r2, q1, q2, q3⟩ := finds_l1 logs ad tp k (l ++ [(i : Int)]) (i + 1) (by omega) (by omega) (by omega)
   have hg : (l.length + ([(i : Int)] : List Int).length) * 8 ≤ 140737488355328 := by simp; omega
   by_cases hl : tp.length ≤ (logs[i]).topics.length
   ·rw [if_neg (by omega : ¬ (logs[i]).topics.length < tp.length)]
    by_cases ha : ad = [] ∨ (logs[i]).address ∈ ad
    ·have hp : (((if 0 < ad.length then ((receipt_among_Address ad (logs[i]).address).bind fun x126 => (some ((!x126)))) else (some (false)))) : Option Bool) = some false := by
      by_cases h0 : 0 < ad.length
      ·rw [if_pos h0, fAmongA_eq, Zb]
       rcases ha with ha | ha
       ·rw [ha] at h0; exact absurd h0 (by simp)
       ·rw [decide_eq_true ha]; rfl
      ·rw [if_neg h0]
     rw [hp, Zb, if_neg (by decide), find_l2 tp _ hl _ 0 (by omega) (by omega), Zb]
     by_cases ht : Tk logs[i] tp 0
     ·rw [if_pos ht, decide_eq_true (show TakesP logs[i] ad tp from ⟨ha, hl, ht⟩), if_pos rfl, if_pos hg, if_pos hg, Zb]
      exact ⟨r2, q1, q2, by omega⟩
     ·rw [if_neg ht, decide_eq_false (fun q : TakesP logs[i] ad tp => ht q.2.2), if_neg (show ¬ (false = true) from by decide), Zb]
      exact ⟨r1, p1, p2, by omega⟩
    ·have hp : (((if 0 < ad.length then ((receipt_among_Address ad (logs[i]).address).bind fun x126 => (some ((!x126)))) else (some (false)))) : Option Bool) = some true := by
      rw [not_or] at ha
      rw [if_pos (List.length_pos_iff.2 ha.1), fAmongA_eq, Zb, decide_eq_false ha.2]; rfl
     rw [hp, Zb, if_pos rfl, decide_eq_false (fun q : TakesP logs[i] ad tp => ha q.1), if_neg (show ¬ (false = true) from by decide), Zb]
     exact ⟨r1, p1, p2, by omega⟩
   ·rw [if_pos (by omega : (logs[i]).topics.length < tp.length), Zb, if_pos rfl, decide_eq_false (fun q : TakesP logs[i] ad tp => hl q.2.1), if_neg (show ¬ (false = true) from by decide), Zb]
    exact ⟨r1, p1, p2, by omega⟩
  ·rw [if_neg h, if_neg h]
   exact ⟨l, rfl, rfl, by omega⟩
theorem finds_eq (logs : List Log) (ad : List (Vector (BitVec 8) 20)) (tp : List (List (Vector (BitVec 8) 32))) (hl : logs.length * 8 ≤ 140737488355328) : ∃ r, receipt_Find logs ad tp = some r ∧ waybillref17_Find logs ad tp = some r ∧ r.length ≤ logs.length := by
 obtain ⟨r, h1, h2, h3⟩ := finds_l1 logs ad tp (logs.length - 0 + 2) [] 0 (by omega) (by omega) (by simpa using hl)
 refine ⟨r, ?_, ?_, by simpa using h3⟩
 ·unfold receipt_Find; rw [h1, Zb]
 ·unfold waybillref17_Find; rw [h2, Zb]
end Go.Fw
namespace Go.Fw
open Go Go.RowKit Go.Deep Go.WideShapes
section
variable {H : Type} {enc : TypeId × Value → H} {P : Program} {W : World} {t e e2 e3 : TypeId} {v : Value}
theorem arg_hs {n : Nat} (ht : P.underlying t = some (.slice e)) (he : P.underlying e = some (.array n e2)) (he2 : P.underlying e2 = some (.int .u8)) (hs2 : P.cellsOf e2 = 1) (hs : P.cellsOf e = n) (hpos : 0 < n) (hb : P.bytesOf e = n) {b0 : Nat} (hval : Value.okWide P W .any b0 t v)
  {d : DataW H} {ps : List MemPlace} (h : DataW.Trod enc P W 0 (fun _ => true) true t v d ps) (hz : Fits P t d) :
  ∃ (A : Option Addr) (cap : Nat) (xs : List (Vector (BitVec 8) n)), v = .slice A xs.length cap ∧ View (fun w => Mem W w []) A xs.length cap n (ars xs) ∧ xs.length * n ≤ 140737488351232 := by
 obtain ⟨a, l, c, rfl⟩ := okWide_slice ht hval
 obtain ⟨fuel, hf⟩ := h
 have hr : reads enc P W fuel t [.slice a l c] = some (d, ps) := by simpa [Value.cells] using hf
 obtain ⟨A, cap, cells, xs, e1, vw, rp, _, m⟩ := reads_hs ht he he2 hs2 hs hpos hb hr hz
 have := ars_of rp
 subst this
 exact ⟨A, cap, xs, e1, vw, m⟩
theorem arg_hss (ht : P.underlying t = some (.slice e)) (hse : P.cellsOf e = 1) (hbe : P.bytesOf e = 24) (he : P.underlying e = some (.slice e2)) (he2 : P.underlying e2 = some (.array 32 e3)) (he3 : P.underlying e3 = some (.int .u8)) (hs3 : P.cellsOf e3 = 1) (hs : P.cellsOf e2 = 32) (hb : P.bytesOf e2 = 32) {b0 : Nat} (hval : Value.okWide P W .any b0 t v)
  {d : DataW H} {ps : List MemPlace} (h : DataW.Trod enc P W 0 (fun _ => true) true t v d ps) (hz : Fits P t d) :
  ∃ (A : Option Addr) (cap : Nat) (cells : List Value) (xs : List (List (Vector (BitVec 8) 32))), v = .slice A xs.length cap ∧ View (fun w => Mem W w []) A xs.length cap 1 cells ∧ Reps (HsRd (fun w => Mem W w [])) cells xs ∧
   xs.length * 24 ≤ 140737488351232 ∧ ∀ x ∈ xs, x.length * 32 ≤ 140737488351232 := by
 obtain ⟨A, cap, ys, el, sp, h1, h2, h3, h4, h5, h6, h7, h8, h9, h10⟩ := arg_slice (α := Value) (fun u => [u]) (fun u d => ∃ n ps, reads enc P W n e [u] = some (d, ps)) 1 ht hse (by omega) (fun n cs r hl hr => by
  match cs, hl with
  | [u], _ => exact ⟨u, rfl, n, r.2, hr⟩) hval h
 have hw := hz.slice ht h7
 rw [hbe, h9] at hw
 have hall : ∀ i, i < ys.length → ∃ q : Option Addr × Nat × List (Vector (BitVec 8) 32), ∃ u, ys[i]? = some u ∧ u = .slice q.1 q.2.2.length q.2.1 ∧ View (fun w => Mem W w []) q.1 q.2.2.length q.2.1 32 (ars q.2.2) ∧ q.2.2.length * 32 ≤ 140737488351232 := fun i hi => by
  have hu : ys[i]? = some ys[i] := List.getElem?_eq_getElem hi
  have hd : el[i]? = some (el[i]'(by omega)) := List.getElem?_eq_getElem (by omega)
  obtain ⟨n, ps', hr⟩ := h10 i _ _ hu hd
  obtain ⟨A', c', cl, x, e1, vw, rp, _, m⟩ := reads_hs he he2 he3 hs3 hs (by decide) hb hr (hw.2 _ (List.mem_of_getElem? hd))
  have := ars_of rp
  subst this
  exact ⟨(A', c', x), _, hu, e1, vw, m⟩
 obtain ⟨qs, hlen, hq⟩ := list_of ys.length hall
 have hcells : qs.flatMap (fun q => [Value.slice q.1 q.2.2.length q.2.1]) = ys := by
  rw [flat1]
  apply List.ext_getElem?
  intro i
  rcases Nat.lt_or_ge i ys.length with hi | hi
  ·have hqi : qs[i]? = some (qs[i]'(by omega)) := List.getElem?_eq_getElem (by omega)
   obtain ⟨u, e1, e3, _⟩ := hq i _ hqi
   rw [List.getElem?_map, hqi, e1, e3]; rfl
  ·rw [List.getElem?_eq_none (by simp; omega), List.getElem?_eq_none hi]
 rw [flat1, List.map_id'] at h6
 have hmem : ∀ q ∈ qs, View (fun w => Mem W w []) q.1 q.2.2.length q.2.1 32 (ars q.2.2) ∧ q.2.2.length * 32 ≤ 140737488351232 := fun q hqm => by
  obtain ⟨i, hi⟩ := List.getElem?_of_mem hqm
  obtain ⟨u, _, _, e4, e5⟩ := hq i q hi
  exact ⟨e4, e5⟩
 have hc : cap * 24 ≤ 140737488351232 := by simpa [reachBytes] using hw.1
 refine ⟨A, cap, ys, qs.map (·.2.2), by rw [List.length_map, hlen]; exact h1, View.of_rd h6 (by simp [hlen]) (by simp [hlen]; omega) (by omega), ?_, by simp [hlen]; omega, fun x hx => ?_⟩
 ·have := Reps.of_list (R := HsRd (fun w => Mem W w [])) (fun q : Option Addr × Nat × List (Vector (BitVec 8) 32) => [Value.slice q.1 q.2.2.length q.2.1]) (fun q => q.2.2) qs (fun q hqm => HsRd.mk (hmem q hqm).1 (ars_reps _))
  rwa [hcells] at this
 ·obtain ⟨q, hqm, rfl⟩ := List.mem_map.1 hx
  exact (hmem q hqm).2
end
end Go.Fw
namespace Go.Fw
def be : Nat → Nat → List (BitVec 8)
 | 0, _ => []
 | k + 1, n => BitVec.ofNat 8 (n / 256 ^ k) :: be k n
def bl (n : Nat) : Nat := if n = 0 then 0 else n.log2 + 1
end Go.Fw
namespace Go.Fw
def nb (n : Nat) : Nat := (bl n + 7) / 8
def bytesN (n : Nat) : List (BitVec 8) := be (nb n) n
end Go.Fw
namespace Go.Fw
def small (s : List (BitVec 8)) (h : Nat) : Bool := match s[h]? with
 | some x => decide (x.toNat < 128)
 | none => false
end Go.Fw
namespace Go.Fw
def headB (c n : Nat) : List (BitVec 8) := if n ≤ 55 then [BitVec.ofNat 8 (c + n)] else BitVec.ofNat 8 (c + 55 + nb n) :: bytesN n
end Go.Fw
namespace Go.Fw
def oneB (d : List (BitVec 8)) : Bool := decide (d.length = 1) && small d 0
mutual
def It.enc : It → List (BitVec 8)
 | .mk l d its => if l = true then headB 192 (Its.enc its).length ++ Its.enc its else if oneB d = true then d else headB 128 d.length ++ d
def Its.enc : List It → List (BitVec 8)
 | [] => []
 | x :: xs => It.enc x ++ Its.enc xs
end
end Go.Fw
namespace Go.Fw
theorem same17_loop (a : List (BitVec 8)) : ∀ (d i k : Nat), i + d = a.length → d < k → waybilllaw17_same.l1 a a k i = some (Lp.go ())
 | 0, i, k, h, hk => by
  obtain ⟨k, rfl⟩ : ∃ m, k = m + 1 := ⟨k - 1, by omega⟩
  rw [waybilllaw17_same.l1, if_neg (by omega)]
 | d + 1, i, k, h, hk => by
  obtain ⟨k, rfl⟩ : ∃ m, k = m + 1 := ⟨k - 1, by omega⟩
  have h1 : i < a.length := by omega
  rw [waybilllaw17_same.l1, if_pos h1, List.getElem?_eq_getElem h1, Zb, Zb, if_pos rfl, same17_loop a d (i + 1) k (by omega) (by omega)]
theorem same17 (a : List (BitVec 8)) : waybilllaw17_same a a = some true := by
 unfold waybilllaw17_same
 rw [if_pos rfl, same17_loop a a.length 0 _ (by omega) (by omega), Zb]
theorem sameLog_loop (a : Log) : ∀ (d i k : Nat), i + d = a.topics.length → d < k → waybilllaw17_sameLog.l1 a a k i = some (Lp.go ())
 | 0, i, k, h, hk => by
  obtain ⟨k, rfl⟩ : ∃ m, k = m + 1 := ⟨k - 1, by omega⟩
  rw [waybilllaw17_sameLog.l1, if_neg (by omega)]
 | d + 1, i, k, h, hk => by
  obtain ⟨k, rfl⟩ : ∃ m, k = m + 1 := ⟨k - 1, by omega⟩
  have h1 : i < a.topics.length := by omega
  rw [waybilllaw17_sameLog.l1, if_pos h1, List.getElem?_eq_getElem h1, Zb, Zb, if_pos rfl, sameLog_loop a d (i + 1) k (by omega) (by omega)]
theorem sameLog_refl (a : Log) : waybilllaw17_sameLog a a = some true := by
 unfold waybilllaw17_sameLog
 rw [if_pos rfl, Zb, if_neg (by simp), sameLog_loop a a.topics.length 0 _ (by omega) (by omega), Zb]
 dsimp only
 rw [same17, Zb]
theorem sameLogs_loop (a : List Log) : ∀ (d i k : Nat), i + d = a.length → d < k → waybilllaw17_sameLogs.l1 a a k i = some (Lp.go ())
 | 0, i, k, h, hk => by
  obtain ⟨k, rfl⟩ : ∃ m, k = m + 1 := ⟨k - 1, by omega⟩
  rw [waybilllaw17_sameLogs.l1, if_neg (by omega)]
 | d + 1, i, k, h, hk => by
  obtain ⟨k, rfl⟩ : ∃ m, k = m + 1 := ⟨k - 1, by omega⟩
  have h1 : i < a.length := by omega
  rw [waybilllaw17_sameLogs.l1, if_pos h1, List.getElem?_eq_getElem h1, Zb, Zb, sameLog_refl, Zb, if_pos rfl, sameLogs_loop a d (i + 1) k (by omega) (by omega)]
theorem sameLogs_refl (a : List Log) : waybilllaw17_sameLogs a a = some true := by
 unfold waybilllaw17_sameLogs
 rw [if_pos rfl, sameLogs_loop a a.length 0 _ (by omega) (by omega), Zb]
end Go.Fw
