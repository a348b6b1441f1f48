/- Part of a proof: rules that its law uses. -/
import Derived.Test.YtgonajfngmeanaaDoorShaC
import Derived.Test.YtgonajfngmeanaaDoorShaM
namespace Go.Fw.Tryd
open Go Go.Proofs
set_option maxRecDepth 100000
set_option linter.unusedVariables false
set_option maxHeartbeats 1000000
theorem now_does (w0 : World) (N : List Ent) (hS : TabAt w0 0 startL) (b : Nat) (v : Value) (s : List (BitVec 32)) (rest : List (BitVec 8)) (n : Int) (t : List (BitVec 8)) (h : HT s rest n t) (hmx : t.length ≤ 4611686018427387904) :
    DoesG Tryd.prog 46 [ptr (some b) 0] w0 [(some b, blk (u32s s ++ [v, .int .i64 n]) 56)] N (fun u G => u = .agg (u32s (nowS t)).toArray ∧ G = [(some b, blk (u32s s ++ [v, .int .i64 n]) 56)]) := by
  have hSs := hS.says (M := (some b, blk (u32s (List.replicate 8 0#32)) 23) :: [])
  have hn := h.n
  have hsl := h.sl
  refine DoesG.enter Tryd.func46 rfl Tryd.ntmps46 rfl (M := (some b, blk (u32s s ++ [v, .int .i64 n]) 56) :: N) rfl ?_
  refine CW.seq ?_
  refine CW.region ?_
  refine OW.alloc (l := u32s (List.replicate 8 0#32)) rfl (by rw [← u32s_rep]; rfl) rfl (fun b2 => ?_)
  refine OW.nil ?_
  refine QW.then_n ?_
  refine CW.seq ?_
  refine CW.seq ?_
  refine CW.region ?_
  refine OW.rv (RV.move rfl) rfl ?_
  refine OW.rv (RV.nilCheck rfl) rfl ?_
  refine OW.rv (RV.field (ob := some b) (off := 0) rfl rfl rfl rfl) rfl ?_
  refine OW.rv (RV.load rfl (List.Mem.tail _ (List.Mem.head _)) rfl rfl rfl (hs_at9 hsl v (.int .i64 n))) rfl ?_
  refine OW.rv (RV.lss rfl rfl) rfl ?_
  refine OW.slot (.bool (decide (t.length < 64))) (congrArg Value.bool (decide_eq_decide.2 (by omega))) ?_
  refine OW.nil ?_
  refine QW.then_n ?_
  by_cases h1 : t.length < 64
  · refine CW.is_t rfl (decide_eq_true h1) ?_
    refine CW.seq ?_
    refine CW.region ?_
    refine OW.rv (RV.loadAs (a := ⟨0, 0, none⟩) (vs := u32s startL) rfl rfl rfl rfl (fun w m => hS.says (M := (some b2, blk (u32s (List.replicate 8 0#32)) 23) :: (some b, blk (u32s s ++ [v, .int .i64 n]) 56) :: N) w m) (u32s_length _)) rfl ?_
    refine OW.sv (SV.storeW rfl rfl rfl (u32s_one _) rfl ((u32s_length _).trans (List.length_replicate ..)) (u32s_length _)) ?_
    refine OW.nil ?_
    refine QW.then_n ?_
    refine CW.ret ?_
    refine QW.then_r ?_
    refine QW.retG (rs := [.cell 2 23]) [.agg (u32s startL).toArray] [(some b, blk (u32s s ++ [v, .int .i64 n]) 56)] rfl ?_ rfl ?_ ?_ _ (.inl rfl)
    · exact ⟨⟨_, _, _, _, rfl, (List.Mem.head _), rfl, rfl, rfl, rfl⟩, trivial⟩
    · exact ⟨by rw [nowS_short h1]; rfl, rfl⟩
    · exact (fun w m => m.tail)
  · refine CW.is_f rfl (decide_eq_false h1) ?_
    refine CW.skip ?_
    refine QW.then_n ?_
    refine CW.seq ?_
    refine CW.region ?_
    refine OW.rv (RV.move rfl) rfl ?_
    refine OW.rv (RV.nilCheck rfl) rfl ?_
    refine OW.rv (RV.field (ob := some b) (off := 0) rfl rfl rfl rfl) rfl ?_
    refine OW.rv (RV.loadAo (vs := u32s s) rfl (List.Mem.tail _ (List.Mem.head _)) rfl rfl rfl rfl (hs_ld0 hsl v (.int .i64 n)) ((u32s_length _).trans hsl)) rfl ?_
    refine OW.sv (SV.storeW rfl rfl rfl (u32s_one _) rfl ((u32s_length _).trans (List.length_replicate ..)) ((u32s_length _).trans hsl)) ?_
    refine OW.nil ?_
    refine QW.then_n ?_
    refine CW.ret ?_
    refine QW.retG (rs := [.cell 2 23]) [.agg (u32s s).toArray] [(some b, blk (u32s s ++ [v, .int .i64 n]) 56)] rfl ?_ rfl ?_ ?_ _ (.inl rfl)
    · exact ⟨⟨_, _, _, _, rfl, (List.Mem.head _), rfl, rfl, congrArg some ((u32s_length _).trans hsl).symm, rfl⟩, trivial⟩
    · exact ⟨by rw [h.st (by omega)]; rfl, rfl⟩
    · exact (fun w m => m.tail)
end Go.Fw.Tryd
