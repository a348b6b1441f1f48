/- Part of a proof: rules that its law uses. -/
import Derived.Test.YtgonajfngmeanaaDoorShaK3
import Derived.Test.YtgonajfngmeanaaDoorOpnL
namespace Go.Fw.Tryd
open Go Go.Proofs
set_option maxRecDepth 100000
set_option linter.unusedVariables false
set_option maxHeartbeats 1000000
abbrev zH : List Value := u32s (List.replicate 8 0#32) ++ [sl none 0 0 0, .int .i64 0]
theorem New_does (w0 : World) (N : List Ent) : DoesG Tryd.prog 30 [] w0 [] N (fun u G => ∃ b : Nat, u = ptr (some b) 0 ∧ G = [(some b, blk zH 56)]) := by
  refine DoesG.enter Tryd.func30 rfl Tryd.ntmps30 rfl (M := N) rfl ?_
  refine CW.seq ?_
  refine CW.region ?_
  refine OW.rv (RV.assign rfl) rfl ?_
  refine OW.nil ?_
  refine QW.then_n ?_
  refine CW.seq ?_
  refine CW.region ?_
  refine OW.rv (RV.buildSt (l := zH) (cs := zH) [] rfl rfl rfl rfl rfl rfl rfl) rfl ?_
  refine OW.boxA rfl rfl (fun b => ?_)
  refine OW.rv (RV.assign rfl) rfl ?_
  refine OW.nil ?_
  refine QW.then_n ?_
  refine CW.ret ?_
  refine QW.retG (rs := [.tmp 0]) [ptr (some b) 0] [(some b, blk zH 56)] rfl ⟨rfl, trivial⟩ rfl ⟨b, rfl, rfl⟩ (fun w m => m) _ (.inl rfl)
theorem zH_HT : HT (List.replicate 8 0#32) [] 0 [] := ⟨rfl, rfl, fun h => by simp at h, rfl⟩
theorem shaSum_does (w0 : World) (Φ : Ctx) (N : List Ent) (hΦ : ∀ w, Mem w0 w N → Φ w) (A0_ : Option Addr) (c0_ : Nat) (cs0_ : List Value) (a0 : List (List (BitVec 8))) (res0 : Vector (BitVec 8) 32) (va0 : View Φ A0_ a0.length c0_ 1 cs0_) (ha0 : Reps (BsRd Φ) cs0_ a0) (hK : TabAt w0 1 constL) (hS : TabAt w0 0 startL) (hf : sha_Sum a0 = some res0) :
    DoesG Tryd.prog 19 [.slice A0_ a0.length c0_] w0 [] N (fun v G => v = .agg (u8s res0.toList).toArray) := by
  unfold sha_Sum at hf
  obtain ⟨hb, hf⟩ := some_if hf
  have hf := (Option.some.inj hf).symm
  subst hf
  have m0 := va0.mx
  refine DoesG.enter Tryd.func19 rfl Tryd.ntmps19 rfl (M := N) rfl ?_
  refine CW.seq ?_
  refine CW.region ?_
  refine OW.alloc (l := u8s (List.replicate 32 0#8)) rfl (by rw [← u8s_rep]; rfl) rfl (fun b2 => ?_)
  refine OW.nil ?_
  refine QW.then_n ?_
  refine CW.seq ?_
  refine CW.region ?_
  refine OW.callG Tryd.call30 rfl (New_does w0 _) rfl rfl ?_
  rintro L1 M1 ⟨b, e1, e2⟩
  rw [e1, e2]
  clear e1 e2 L1 M1
  refine OW.rv (RV.assign rfl) rfl ?_
  refine OW.nil ?_
  refine QW.then_n ?_
  refine CW.seq ?_
  refine CW.seq ?_
  refine CW.region ?_
  refine OW.rv (RV.move rfl) rfl ?_
  refine OW.rv (RV.len rfl rfl) rfl ?_
  refine OW.rv (RV.move rfl) rfl ?_
  refine OW.nil ?_
  refine QW.then_n ?_
  refine CW.cutJ (fun L' M' => ∃ (s : List (BitVec 32)) (rest : List (BitVec 8)) (n : Int) (ob : Option Nat) (c : Nat) (r : List Value), HT s rest n a0.flatten ∧ OwnS ob rest.length c 1 (u8s rest) r ∧ L' = [(2, ptr (some b2) 0), (3, ptr (some b) 0)] ∧ M' = (some b, blk (u32s s ++ [sl ob 0 rest.length c, .int .i64 n]) 56) :: (ob, blk (u8s rest ++ r) 5) :: (some b2, blk (u8s (List.replicate 32 0#8)) 39) :: N) ?_ ?_
  · rintro L' M' ⟨s, rest, n, ob, c, r, hT, ho, rfl, rfl⟩
    refine QW.then_n ?_
    refine CW.seq ?_
    refine CW.region ?_
    refine OW.rv (RV.move rfl) rfl ?_
    refine OW.callG Tryd.call28 rfl (HSum_does w0 ((some b2, blk (u8s (List.replicate 32 0#8)) 39) :: N) hK hS b ob c r s rest n a0.flatten hT ho hb) rfl rfl ?_
    rintro L1 M1 ⟨e1, e2⟩
    rw [e1, e2]
    clear e1 e2 L1 M1
    refine OW.rot2 ?_
    refine OW.sv (SV.storeW rfl rfl rfl (u8s_one _) rfl ((u8s_length _).trans (List.length_replicate ..)) ((u8s_length _).trans (shaR_length _))) ?_
    refine OW.nil ?_
    refine QW.then_n ?_
    refine CW.ret ?_
    refine QW.retG (rs := [.cell 2 39]) [.agg (u8s (shaR a0.flatten)).toArray] [] rfl ?_ rfl ?_ ?_ _ (.inl rfl)
    · exact ⟨⟨_, _, _, _, rfl, (List.Mem.head _), rfl, rfl, congrArg some ((u8s_length _).trans (shaR_length _)).symm, rfl⟩, trivial⟩
    · rfl
    · exact (fun w m => m.drop 3)
  · refine CW.block ?_
    refine CW.loopJ (fun k L' M' => ∃ (i : Nat) (s : List (BitVec 32)) (rest : List (BitVec 8)) (n : Int) (ob : Option Nat) (c : Nat) (r : List Value), k = a0.length - i ∧ i ≤ a0.length ∧ HT s rest n (a0.take i).flatten ∧ OwnS ob rest.length c 1 (u8s rest) r ∧ L' = [(2, ptr (some b2) 0), (3, ptr (some b) 0), (7, .slice A0_ a0.length c0_), (8, .int .i64 (a0.length : Int)), (9, .int .i64 (i : Int))] ∧ M' = (some b, blk (u32s s ++ [sl ob 0 rest.length c, .int .i64 n]) 56) :: (ob, blk (u8s rest ++ r) 5) :: (some b2, blk (u8s (List.replicate 32 0#8)) 39) :: N) (k0 := a0.length) ⟨0, List.replicate 8 0#32, [], 0, none, 0, [], rfl, by omega, zH_HT, OwnS.nil, rfl, rfl⟩ ⟨rfl, rfl, rfl, rfl, rfl, trivial⟩ (fun w m => (m.nil_ent (blk ([] ++ []) 5)).pick [1, 0, 2] 3 rfl rfl) ?_
    rintro k L' M' ⟨i, s, rest, n, ob, c, r, rfl, hi, hT, ho, rfl, rfl⟩
    refine CW.seq ?_
    refine CW.region ?_
    refine OW.rv (RV.lss rfl rfl) rfl ?_
    refine OW.slot (.bool (decide (i < a0.length))) (congrArg Value.bool (decide_eq_decide.2 (by omega))) ?_
    refine OW.nil ?_
    refine QW.then_n ?_
    refine CW.seq ?_
    by_cases h1 : i < a0.length
    · refine CW.is_t rfl (decide_eq_true h1) ?_
      refine CW.skip ?_
      refine QW.then_n ?_
      have hx : a0[i]? = some a0[i] := List.getElem?_eq_getElem h1
      obtain ⟨cs, hr, hcs⟩ := ha0.get BsRd.len hx
      obtain ⟨A1, c1, e, v1⟩ := hr
      subst e
      have hfl : (a0.take (i + 1)).flatten = (a0.take i).flatten ++ a0[i] := by rw [List.take_add_one, hx, Option.toList_some, List.flatten_append]; simp
      have hle : ((a0.take (i + 1)).flatten).length ≤ a0.flatten.length := by
        have h2 : a0.flatten = (a0.take (i + 1)).flatten ++ (a0.drop (i + 1)).flatten := by rw [← List.flatten_append, List.take_append_drop]
        rw [h2, List.length_append]
        omega
      rw [hfl, List.length_append] at hle
      refine CW.seq ?_
      refine CW.block ?_
      refine CW.seq ?_
      refine CW.region ?_
      refine OW.rv (RV.idx_r (i) rfl rfl rfl rfl rfl (va0.isSome (by decide) h1) (by omega)) rfl ?_
      refine OW.rv (RV.load_at rfl rfl rfl (fun w m => va0.cell (hΦ w (m.drop 3)) (show cs0_[i]? = some (.slice A1 a0[i].length c1) by have := hcs 0 _ rfl; simpa using this))) rfl ?_
      refine OW.rv (RV.assign rfl) rfl ?_
      refine OW.nil ?_
      refine QW.then_n ?_
      refine CW.region ?_
      refine OW.rv (RV.move rfl) rfl ?_
      refine OW.rv (RV.move rfl) rfl ?_
      refine OW.callG Tryd.call25 rfl (Write_does w0 Φ ((some b2, blk (u8s (List.replicate 32 0#8)) 39) :: N) (fun w m => hΦ w m.tail) hK hS b ob c r s rest n (a0.take i).flatten hT ho A1 c1 a0[i] v1 (by omega)) rfl rfl ?_
      rintro L1 M1 ⟨ob', c', r', s', rest', n', hT', ho', e1, e2⟩
      rw [e1, e2]
      clear e1 e2 L1 M1
      refine OW.nil ?_
      refine QW.block_n ?_
      refine QW.then_n ?_
      refine CW.region ?_
      refine OW.rv (RV.add rfl rfl (by omega)) rfl ?_
      refine OW.slot (.int .i64 (((i + 1 : Nat)) : Int)) (by congr 1) ?_
      refine OW.rv (RV.move rfl) rfl ?_
      refine OW.nil ?_
      rw [← hfl] at hT'
      exact QW.againJ (k' := a0.length - (i + 1)) (by omega) ⟨i + 1, s', rest', n', ob', c', r', rfl, by omega, hT', ho', rfl, rfl⟩ ⟨rfl, rfl, rfl, rfl, rfl, trivial⟩ (fun w m => m)
    · refine CW.is_f rfl (decide_eq_false h1) ?_
      refine CW.exit ?_
      refine QW.then_x ?_
      refine QW.then_x ?_
      refine QW.block_xe ?_
      obtain rfl : i = a0.length := by omega
      rw [List.take_length] at hT
      exact QW.join ⟨s, rest, n, ob, c, r, hT, ho, rfl, rfl⟩ ⟨rfl, rfl, trivial⟩ (fun w m => m)
end Go.Fw.Tryd
