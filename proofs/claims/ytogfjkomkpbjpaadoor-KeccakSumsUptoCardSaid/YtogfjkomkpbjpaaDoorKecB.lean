/- Part of a proof: rules that its law uses. -/
import Derived.Test.YtogfjkomkpbjpaaDoorKecA
namespace Go.Fw.Tryd
open Go Go.Proofs
set_option maxRecDepth 100000
set_option linter.unusedVariables false
attribute [local irreducible] permTo roundL movedL chiL sumTo
theorem perm_does (w0 : World) (M : List Ent) (a : List (BitVec 64)) (ha : a.length = 25) : Does Tryd.prog 9 [.agg (u64s a).toArray] w0 M (τ := Unit) (fun _ => True) (fun _ => .agg (u64s (permL a)).toArray) (fun _ => M) := by
  have hpe : permL a = permTo a 24 := rfl
  have hp0 : permTo a 0 = a := permTo_zero a
  have hst : ∀ t, permTo a (t + 1) = roundL (permTo a t) (g64 roundsL t) := fun t => permTo_succ a t
  have htl : turnsL.length = 25 := rfl
  have hgl : goesL.length = 25 := rfl
  have hrl : roundsL.length = 24 := rfl
  have hz25 : (List.replicate 25 0#64).length = 25 := List.length_replicate ..
  rw [hpe]
  refine Does.enter Tryd.func9 rfl Tryd.ntmps9 rfl ?_
  (repeat (first | refine CW.seq ?_ | refine QW.then_n ?_ | refine CW.block ?_ | refine CW.ret ?_ | refine CW.skip ?_ | refine CW.exit ?_ | refine QW.then_x ?_ | refine QW.then_r ?_ | refine QW.block_n ?_ | refine QW.block_xe ?_ | refine QW.block_xn rfl ?_ | refine QW.block_r ?_))
  refine CW.region ?_
  refine OW.boxA rfl rfl (fun b1 => ?_)
  refine OW.alloc (l := u64s (List.replicate 25 0#64)) rfl (by rw [← u64s_rep]; rfl) rfl (fun b2 => ?_)
  refine OW.nil ?_
  (repeat (first | refine CW.seq ?_ | refine QW.then_n ?_ | refine CW.block ?_ | refine CW.ret ?_ | refine CW.skip ?_ | refine CW.exit ?_ | refine QW.then_x ?_ | refine QW.then_r ?_ | refine QW.block_n ?_ | refine QW.block_xe ?_ | refine QW.block_xn rfl ?_ | refine QW.block_r ?_))
  (repeat (first | refine CW.seq ?_ | refine QW.then_n ?_ | refine CW.block ?_ | refine CW.ret ?_ | refine CW.skip ?_ | refine CW.exit ?_ | refine QW.then_x ?_ | refine QW.then_r ?_ | refine QW.block_n ?_ | refine QW.block_xe ?_ | refine QW.block_xn rfl ?_ | refine QW.block_r ?_))
  refine CW.region ?_
  refine OW.call Tryd.call32 rfl (ways_does w0 _) rfl (fun u hu => ?_)
  refine OW.rv (RV.move rfl) rfl ?_
  refine OW.rv (RV.extract rfl rfl) rfl ?_
  refine OW.rv (RV.extract rfl rfl) rfl ?_
  refine OW.alloc (l := i64s (List.replicate 25 0)) rfl (by rw [← i64s_rep]; rfl) rfl (fun b3 => ?_)
  refine OW.alloc (l := i64s (List.replicate 25 0)) rfl (by rw [← i64s_rep]; rfl) rfl (fun b4 => ?_)
  (first | (first | refine OW.sv (SV.storeW rfl (by first | rfl | assumption) rfl (by first | exact i64s_one _ | assumption) rfl (by first | assumption | exact (i64s_length _).trans (List.length_replicate ..) | exact (i64s_length _).trans (by assumption) | rfl | (simp; done) | (simp [*]; done) | (simp [*]; rfl)) (by first | assumption | exact (i64s_length _).trans (List.length_replicate ..) | exact (i64s_length _).trans (by assumption) | rfl | (simp; done) | (simp [*]; done) | (simp [*]; rfl))) ?_ | refine OW.sv (SV.storeAs rfl (by first | rfl | assumption) rfl (by first | exact i64s_one _ | assumption) rfl (by first | assumption | exact (i64s_length _).trans (List.length_replicate ..) | exact (i64s_length _).trans (by assumption) | rfl | (simp; done) | (simp [*]; done) | (simp [*]; rfl)) (by first | assumption | (simp; done) | (simp; omega) | omega)) ?_) | (refine OW.rot1 ?_; (first | refine OW.sv (SV.storeW rfl (by first | rfl | assumption) rfl (by first | exact i64s_one _ | assumption) rfl (by first | assumption | exact (i64s_length _).trans (List.length_replicate ..) | exact (i64s_length _).trans (by assumption) | rfl | (simp; done) | (simp [*]; done) | (simp [*]; rfl)) (by first | assumption | exact (i64s_length _).trans (List.length_replicate ..) | exact (i64s_length _).trans (by assumption) | rfl | (simp; done) | (simp [*]; done) | (simp [*]; rfl))) ?_ | refine OW.sv (SV.storeAs rfl (by first | rfl | assumption) rfl (by first | exact i64s_one _ | assumption) rfl (by first | assumption | exact (i64s_length _).trans (List.length_replicate ..) | exact (i64s_length _).trans (by assumption) | rfl | (simp; done) | (simp [*]; done) | (simp [*]; rfl)) (by first | assumption | (simp; done) | (simp; omega) | omega)) ?_)) | (refine OW.rot2 ?_; (first | refine OW.sv (SV.storeW rfl (by first | rfl | assumption) rfl (by first | exact i64s_one _ | assumption) rfl (by first | assumption | exact (i64s_length _).trans (List.length_replicate ..) | exact (i64s_length _).trans (by assumption) | rfl | (simp; done) | (simp [*]; done) | (simp [*]; rfl)) (by first | assumption | exact (i64s_length _).trans (List.length_replicate ..) | exact (i64s_length _).trans (by assumption) | rfl | (simp; done) | (simp [*]; done) | (simp [*]; rfl))) ?_ | refine OW.sv (SV.storeAs rfl (by first | rfl | assumption) rfl (by first | exact i64s_one _ | assumption) rfl (by first | assumption | exact (i64s_length _).trans (List.length_replicate ..) | exact (i64s_length _).trans (by assumption) | rfl | (simp; done) | (simp [*]; done) | (simp [*]; rfl)) (by first | assumption | (simp; done) | (simp; omega) | omega)) ?_)) | (refine OW.rot3 ?_; (first | refine OW.sv (SV.storeW rfl (by first | rfl | assumption) rfl (by first | exact i64s_one _ | assumption) rfl (by first | assumption | exact (i64s_length _).trans (List.length_replicate ..) | exact (i64s_length _).trans (by assumption) | rfl | (simp; done) | (simp [*]; done) | (simp [*]; rfl)) (by first | assumption | exact (i64s_length _).trans (List.length_replicate ..) | exact (i64s_length _).trans (by assumption) | rfl | (simp; done) | (simp [*]; done) | (simp [*]; rfl))) ?_ | refine OW.sv (SV.storeAs rfl (by first | rfl | assumption) rfl (by first | exact i64s_one _ | assumption) rfl (by first | assumption | exact (i64s_length _).trans (List.length_replicate ..) | exact (i64s_length _).trans (by assumption) | rfl | (simp; done) | (simp [*]; done) | (simp [*]; rfl)) (by first | assumption | (simp; done) | (simp; omega) | omega)) ?_)) | (refine OW.rot4 ?_; (first | refine OW.sv (SV.storeW rfl (by first | rfl | assumption) rfl (by first | exact i64s_one _ | assumption) rfl (by first | assumption | exact (i64s_length _).trans (List.length_replicate ..) | exact (i64s_length _).trans (by assumption) | rfl | (simp; done) | (simp [*]; done) | (simp [*]; rfl)) (by first | assumption | exact (i64s_length _).trans (List.length_replicate ..) | exact (i64s_length _).trans (by assumption) | rfl | (simp; done) | (simp [*]; done) | (simp [*]; rfl))) ?_ | refine OW.sv (SV.storeAs rfl (by first | rfl | assumption) rfl (by first | exact i64s_one _ | assumption) rfl (by first | assumption | exact (i64s_length _).trans (List.length_replicate ..) | exact (i64s_length _).trans (by assumption) | rfl | (simp; done) | (simp [*]; done) | (simp [*]; rfl)) (by first | assumption | (simp; done) | (simp; omega) | omega)) ?_)) | (refine OW.rot5 ?_; (first | refine OW.sv (SV.storeW rfl (by first | rfl | assumption) rfl (by first | exact i64s_one _ | assumption) rfl (by first | assumption | exact (i64s_length _).trans (List.length_replicate ..) | exact (i64s_length _).trans (by assumption) | rfl | (simp; done) | (simp [*]; done) | (simp [*]; rfl)) (by first | assumption | exact (i64s_length _).trans (List.length_replicate ..) | exact (i64s_length _).trans (by assumption) | rfl | (simp; done) | (simp [*]; done) | (simp [*]; rfl))) ?_ | refine OW.sv (SV.storeAs rfl (by first | rfl | assumption) rfl (by first | exact i64s_one _ | assumption) rfl (by first | assumption | exact (i64s_length _).trans (List.length_replicate ..) | exact (i64s_length _).trans (by assumption) | rfl | (simp; done) | (simp [*]; done) | (simp [*]; rfl)) (by first | assumption | (simp; done) | (simp; omega) | omega)) ?_)) | (refine OW.rot6 ?_; (first | refine OW.sv (SV.storeW rfl (by first | rfl | assumption) rfl (by first | exact i64s_one _ | assumption) rfl (by first | assumption | exact (i64s_length _).trans (List.length_replicate ..) | exact (i64s_length _).trans (by assumption) | rfl | (simp; done) | (simp [*]; done) | (simp [*]; rfl)) (by first | assumption | exact (i64s_length _).trans (List.length_replicate ..) | exact (i64s_length _).trans (by assumption) | rfl | (simp; done) | (simp [*]; done) | (simp [*]; rfl))) ?_ | refine OW.sv (SV.storeAs rfl (by first | rfl | assumption) rfl (by first | exact i64s_one _ | assumption) rfl (by first | assumption | exact (i64s_length _).trans (List.length_replicate ..) | exact (i64s_length _).trans (by assumption) | rfl | (simp; done) | (simp [*]; done) | (simp [*]; rfl)) (by first | assumption | (simp; done) | (simp; omega) | omega)) ?_)))
  (first | (first | refine OW.sv (SV.storeW rfl (by first | rfl | assumption) rfl (by first | exact i64s_one _ | assumption) rfl (by first | assumption | exact (i64s_length _).trans (List.length_replicate ..) | exact (i64s_length _).trans (by assumption) | rfl | (simp; done) | (simp [*]; done) | (simp [*]; rfl)) (by first | assumption | exact (i64s_length _).trans (List.length_replicate ..) | exact (i64s_length _).trans (by assumption) | rfl | (simp; done) | (simp [*]; done) | (simp [*]; rfl))) ?_ | refine OW.sv (SV.storeAs rfl (by first | rfl | assumption) rfl (by first | exact i64s_one _ | assumption) rfl (by first | assumption | exact (i64s_length _).trans (List.length_replicate ..) | exact (i64s_length _).trans (by assumption) | rfl | (simp; done) | (simp [*]; done) | (simp [*]; rfl)) (by first | assumption | (simp; done) | (simp; omega) | omega)) ?_) | (refine OW.rot1 ?_; (first | refine OW.sv (SV.storeW rfl (by first | rfl | assumption) rfl (by first | exact i64s_one _ | assumption) rfl (by first | assumption | exact (i64s_length _).trans (List.length_replicate ..) | exact (i64s_length _).trans (by assumption) | rfl | (simp; done) | (simp [*]; done) | (simp [*]; rfl)) (by first | assumption | exact (i64s_length _).trans (List.length_replicate ..) | exact (i64s_length _).trans (by assumption) | rfl | (simp; done) | (simp [*]; done) | (simp [*]; rfl))) ?_ | refine OW.sv (SV.storeAs rfl (by first | rfl | assumption) rfl (by first | exact i64s_one _ | assumption) rfl (by first | assumption | exact (i64s_length _).trans (List.length_replicate ..) | exact (i64s_length _).trans (by assumption) | rfl | (simp; done) | (simp [*]; done) | (simp [*]; rfl)) (by first | assumption | (simp; done) | (simp; omega) | omega)) ?_)) | (refine OW.rot2 ?_; (first | refine OW.sv (SV.storeW rfl (by first | rfl | assumption) rfl (by first | exact i64s_one _ | assumption) rfl (by first | assumption | exact (i64s_length _).trans (List.length_replicate ..) | exact (i64s_length _).trans (by assumption) | rfl | (simp; done) | (simp [*]; done) | (simp [*]; rfl)) (by first | assumption | exact (i64s_length _).trans (List.length_replicate ..) | exact (i64s_length _).trans (by assumption) | rfl | (simp; done) | (simp [*]; done) | (simp [*]; rfl))) ?_ | refine OW.sv (SV.storeAs rfl (by first | rfl | assumption) rfl (by first | exact i64s_one _ | assumption) rfl (by first | assumption | exact (i64s_length _).trans (List.length_replicate ..) | exact (i64s_length _).trans (by assumption) | rfl | (simp; done) | (simp [*]; done) | (simp [*]; rfl)) (by first | assumption | (simp; done) | (simp; omega) | omega)) ?_)) | (refine OW.rot3 ?_; (first | refine OW.sv (SV.storeW rfl (by first | rfl | assumption) rfl (by first | exact i64s_one _ | assumption) rfl (by first | assumption | exact (i64s_length _).trans (List.length_replicate ..) | exact (i64s_length _).trans (by assumption) | rfl | (simp; done) | (simp [*]; done) | (simp [*]; rfl)) (by first | assumption | exact (i64s_length _).trans (List.length_replicate ..) | exact (i64s_length _).trans (by assumption) | rfl | (simp; done) | (simp [*]; done) | (simp [*]; rfl))) ?_ | refine OW.sv (SV.storeAs rfl (by first | rfl | assumption) rfl (by first | exact i64s_one _ | assumption) rfl (by first | assumption | exact (i64s_length _).trans (List.length_replicate ..) | exact (i64s_length _).trans (by assumption) | rfl | (simp; done) | (simp [*]; done) | (simp [*]; rfl)) (by first | assumption | (simp; done) | (simp; omega) | omega)) ?_)) | (refine OW.rot4 ?_; (first | refine OW.sv (SV.storeW rfl (by first | rfl | assumption) rfl (by first | exact i64s_one _ | assumption) rfl (by first | assumption | exact (i64s_length _).trans (List.length_replicate ..) | exact (i64s_length _).trans (by assumption) | rfl | (simp; done) | (simp [*]; done) | (simp [*]; rfl)) (by first | assumption | exact (i64s_length _).trans (List.length_replicate ..) | exact (i64s_length _).trans (by assumption) | rfl | (simp; done) | (simp [*]; done) | (simp [*]; rfl))) ?_ | refine OW.sv (SV.storeAs rfl (by first | rfl | assumption) rfl (by first | exact i64s_one _ | assumption) rfl (by first | assumption | exact (i64s_length _).trans (List.length_replicate ..) | exact (i64s_length _).trans (by assumption) | rfl | (simp; done) | (simp [*]; done) | (simp [*]; rfl)) (by first | assumption | (simp; done) | (simp; omega) | omega)) ?_)) | (refine OW.rot5 ?_; (first | refine OW.sv (SV.storeW rfl (by first | rfl | assumption) rfl (by first | exact i64s_one _ | assumption) rfl (by first | assumption | exact (i64s_length _).trans (List.length_replicate ..) | exact (i64s_length _).trans (by assumption) | rfl | (simp; done) | (simp [*]; done) | (simp [*]; rfl)) (by first | assumption | exact (i64s_length _).trans (List.length_replicate ..) | exact (i64s_length _).trans (by assumption) | rfl | (simp; done) | (simp [*]; done) | (simp [*]; rfl))) ?_ | refine OW.sv (SV.storeAs rfl (by first | rfl | assumption) rfl (by first | exact i64s_one _ | assumption) rfl (by first | assumption | exact (i64s_length _).trans (List.length_replicate ..) | exact (i64s_length _).trans (by assumption) | rfl | (simp; done) | (simp [*]; done) | (simp [*]; rfl)) (by first | assumption | (simp; done) | (simp; omega) | omega)) ?_)) | (refine OW.rot6 ?_; (first | refine OW.sv (SV.storeW rfl (by first | rfl | assumption) rfl (by first | exact i64s_one _ | assumption) rfl (by first | assumption | exact (i64s_length _).trans (List.length_replicate ..) | exact (i64s_length _).trans (by assumption) | rfl | (simp; done) | (simp [*]; done) | (simp [*]; rfl)) (by first | assumption | exact (i64s_length _).trans (List.length_replicate ..) | exact (i64s_length _).trans (by assumption) | rfl | (simp; done) | (simp [*]; done) | (simp [*]; rfl))) ?_ | refine OW.sv (SV.storeAs rfl (by first | rfl | assumption) rfl (by first | exact i64s_one _ | assumption) rfl (by first | assumption | exact (i64s_length _).trans (List.length_replicate ..) | exact (i64s_length _).trans (by assumption) | rfl | (simp; done) | (simp [*]; done) | (simp [*]; rfl)) (by first | assumption | (simp; done) | (simp; omega) | omega)) ?_)))
  refine OW.nil ?_
  (repeat (first | refine CW.seq ?_ | refine QW.then_n ?_ | refine CW.block ?_ | refine CW.ret ?_ | refine CW.skip ?_ | refine CW.exit ?_ | refine QW.then_x ?_ | refine QW.then_r ?_ | refine QW.block_n ?_ | refine QW.block_xe ?_ | refine QW.block_xn rfl ?_ | refine QW.block_r ?_))
  (repeat (first | refine CW.seq ?_ | refine QW.then_n ?_ | refine CW.block ?_ | refine CW.ret ?_ | refine CW.skip ?_ | refine CW.exit ?_ | refine QW.then_x ?_ | refine QW.then_r ?_ | refine QW.block_n ?_ | refine QW.block_xe ?_ | refine QW.block_xn rfl ?_ | refine QW.block_r ?_))
  refine CW.region ?_
  refine OW.call Tryd.call33 rfl (numbers_does w0 _) rfl (fun u hu => ?_)
  refine OW.rv (RV.move rfl) rfl ?_
  refine OW.nil ?_
  (repeat (first | refine CW.seq ?_ | refine QW.then_n ?_ | refine CW.block ?_ | refine CW.ret ?_ | refine CW.skip ?_ | refine CW.exit ?_ | refine QW.then_x ?_ | refine QW.then_r ?_ | refine QW.block_n ?_ | refine QW.block_xe ?_ | refine QW.block_xn rfl ?_ | refine QW.block_r ?_))
  refine CW.loop (σ := Nat) (fun t => t ≤ 24) (fun t => [(1, ptr (some b1) 0), (2, ptr (some b2) 0), (3, ptr (some b3) 0), (4, ptr (some b4) 0), (19, .agg (u64s roundsL).toArray), (20, .int .i64 (t : Int))])
    (fun t => (some b1, blk (u64s (permTo a t)) 23) :: (some b4, blk (i64s goesL) 60) :: (some b3, blk (i64s turnsL) 60) :: (some b2, blk (u64s (List.replicate 25 0#64)) 23) :: M) (fun t => 24 - t) 0 (by omega) ⟨rfl, rfl, rfl, rfl, rfl, rfl, trivial⟩ (fun _ m => by rw [hp0]; exact m.rot3) ?_
  intro t ht
  have hal := permTo_length ha t
  (repeat (first | refine CW.seq ?_ | refine QW.then_n ?_ | refine CW.block ?_ | refine CW.ret ?_ | refine CW.skip ?_ | refine CW.exit ?_ | refine QW.then_x ?_ | refine QW.then_r ?_ | refine QW.block_n ?_ | refine QW.block_xe ?_ | refine QW.block_xn rfl ?_ | refine QW.block_r ?_))
  refine CW.region ?_
  refine OW.rv (RV.lss rfl rfl) rfl ?_
  refine OW.nil ?_
  (repeat (first | refine CW.seq ?_ | refine QW.then_n ?_ | refine CW.block ?_ | refine CW.ret ?_ | refine CW.skip ?_ | refine CW.exit ?_ | refine QW.then_x ?_ | refine QW.then_r ?_ | refine QW.block_n ?_ | refine QW.block_xe ?_ | refine QW.block_xn rfl ?_ | refine QW.block_r ?_))
  (first | refine CW.cond_t rfl ?_ | refine CW.cond_f rfl ?_ | refine CW.cond_p rfl (fun htlt => ?_) (fun htlt => ?_) | refine CW.cond_np rfl (fun htlt => ?_) (fun htlt => ?_) | refine CW.cond rfl (fun htlt => ?_) (fun htlt => ?_))
  · have ht2 : t < 24 := by omega
    have hs := hst t
    generalize permTo a t = A at hal hs ⊢
    have grc : (u64s roundsL)[t]? = some (U64 (g64 roundsL t)) := u64s_get (by omega)
    (repeat (first | refine CW.seq ?_ | refine QW.then_n ?_ | refine CW.block ?_ | refine CW.ret ?_ | refine CW.skip ?_ | refine CW.exit ?_ | refine QW.then_x ?_ | refine QW.then_r ?_ | refine QW.block_n ?_ | refine QW.block_xe ?_ | refine QW.block_xn rfl ?_ | refine QW.block_r ?_))
    refine CW.region ?_
    refine OW.rv (RV.indexV _ rfl rfl rfl rfl rfl rfl rfl (by omega) (by first | rfl | assumption)) rfl ?_
    refine OW.rv (RV.assign rfl) rfl ?_
    refine OW.nil ?_
    (repeat (first | refine CW.seq ?_ | refine QW.then_n ?_ | refine CW.block ?_ | refine CW.ret ?_ | refine CW.skip ?_ | refine CW.exit ?_ | refine QW.then_x ?_ | refine QW.then_r ?_ | refine QW.block_n ?_ | refine QW.block_xe ?_ | refine QW.block_xn rfl ?_ | refine QW.block_r ?_))
    (repeat (first | refine CW.seq ?_ | refine QW.then_n ?_ | refine CW.block ?_ | refine CW.ret ?_ | refine CW.skip ?_ | refine CW.exit ?_ | refine QW.then_x ?_ | refine QW.then_r ?_ | refine QW.block_n ?_ | refine QW.block_xe ?_ | refine QW.block_xn rfl ?_ | refine QW.block_r ?_))
    refine CW.region ?_
    refine OW.alloc (l := u64s (List.replicate 5 0#64)) rfl (by rw [← u64s_rep]; rfl) rfl (fun b7 => ?_)
    refine OW.nil ?_
    (repeat (first | refine CW.seq ?_ | refine QW.then_n ?_ | refine CW.block ?_ | refine CW.ret ?_ | refine CW.skip ?_ | refine CW.exit ?_ | refine QW.then_x ?_ | refine QW.then_r ?_ | refine QW.block_n ?_ | refine QW.block_xe ?_ | refine QW.block_xn rfl ?_ | refine QW.block_r ?_))
    (repeat (first | refine CW.seq ?_ | refine QW.then_n ?_ | refine CW.block ?_ | refine CW.ret ?_ | refine CW.skip ?_ | refine CW.exit ?_ | refine QW.then_x ?_ | refine QW.then_r ?_ | refine QW.block_n ?_ | refine QW.block_xe ?_ | refine QW.block_xn rfl ?_ | refine QW.block_r ?_))
    refine CW.region ?_
    (first | refine OW.rv (RV.loadW rfl (by (repeat (first | exact List.Mem.head _ | assumption | refine List.Mem.tail _ ?_)); done) (by first | rfl | assumption) rfl rfl rfl (by first | assumption | exact (u64s_length _).trans (List.length_replicate ..) | exact (u64s_length _).trans (by assumption) | rfl | (simp; done) | (simp [*]; done) | (simp [*]; rfl))) rfl ?_ | refine OW.rv (RV.loadAo rfl (by (repeat (first | exact List.Mem.head _ | assumption | refine List.Mem.tail _ ?_)); done) (by first | rfl | assumption) rfl rfl rfl (by assumption) (by first | assumption | exact (u64s_length _).trans (List.length_replicate ..) | exact (u64s_length _).trans (by assumption) | rfl | (simp; done) | (simp [*]; done) | (simp [*]; rfl))) rfl ?_ | refine OW.rv (RV.loadAs rfl rfl rfl rfl (by (repeat (first | assumption | refine Mem.Says.cons ?_)); done) (by first | assumption | exact (u64s_length _).trans (List.length_replicate ..) | exact (u64s_length _).trans (by assumption) | rfl | (simp; done) | (simp [*]; done) | (simp [*]; rfl))) rfl ?_)
    refine OW.rv (RV.move rfl) rfl ?_
    refine OW.nil ?_
    (repeat (first | refine CW.seq ?_ | refine QW.then_n ?_ | refine CW.block ?_ | refine CW.ret ?_ | refine CW.skip ?_ | refine CW.exit ?_ | refine QW.then_x ?_ | refine QW.then_r ?_ | refine QW.block_n ?_ | refine QW.block_xe ?_ | refine QW.block_xn rfl ?_ | refine QW.block_r ?_))
    generalize g64 roundsL t = rc at hs ⊢
    refine CW.loop (σ := Nat × List (BitVec 64)) (fun s => s.1 ≤ 25 ∧ s.2.length = 5 ∧ ∀ x, x < 5 → g64 s.2 x = sumTo A x s.1) (fun s => [(1, ptr (some b1) 0), (2, ptr (some b2) 0), (3, ptr (some b3) 0), (4, ptr (some b4) 0), (6, U64 rc), (7, ptr (some b7) 0), (19, .agg (u64s roundsL).toArray), (20, .int .i64 (t : Int)), (23, .agg (u64s A).toArray), (24, .int .i64 (s.1 : Int))])
      (fun s => (some b7, blk (u64s s.2) 65) :: (some b1, blk (u64s A) 23) :: (some b4, blk (i64s goesL) 60) :: (some b3, blk (i64s turnsL) 60) :: (some b2, blk (u64s (List.replicate 25 0#64)) 23) :: M) (fun s => 25 - s.1) (0, List.replicate 5 0#64) ⟨by simp, rfl, fun x hx => by rw [sumTo_zero]; exact g64_zeros 5 x⟩ ⟨rfl, rfl, rfl, rfl, rfl, rfl, rfl, rfl, rfl, rfl, trivial⟩ (fun _ m => m) ?_
    rintro ⟨n, sm⟩ ⟨hn, hsm, he⟩
    dsimp only at hn hsm he ⊢
    (repeat (first | refine CW.seq ?_ | refine QW.then_n ?_ | refine CW.block ?_ | refine CW.ret ?_ | refine CW.skip ?_ | refine CW.exit ?_ | refine QW.then_x ?_ | refine QW.then_r ?_ | refine QW.block_n ?_ | refine QW.block_xe ?_ | refine QW.block_xn rfl ?_ | refine QW.block_r ?_))
    refine CW.region ?_
    refine OW.rv (RV.lss rfl rfl) rfl ?_
    refine OW.nil ?_
    (repeat (first | refine CW.seq ?_ | refine QW.then_n ?_ | refine CW.block ?_ | refine CW.ret ?_ | refine CW.skip ?_ | refine CW.exit ?_ | refine QW.then_x ?_ | refine QW.then_r ?_ | refine QW.block_n ?_ | refine QW.block_xe ?_ | refine QW.block_xn rfl ?_ | refine QW.block_r ?_))
    (first | refine CW.cond_t rfl ?_ | refine CW.cond_f rfl ?_ | refine CW.cond_p rfl (fun hlt => ?_) (fun hlt => ?_) | refine CW.cond_np rfl (fun hlt => ?_) (fun hlt => ?_) | refine CW.cond rfl (fun hlt => ?_) (fun hlt => ?_))
    · have hn2 : n < 25 := by omega
      have ga : (u64s A)[n]? = some (U64 (g64 A n)) := u64s_get (by omega)
      have et : 0 + ((n : Int) % 5).toNat = n % 5 := by omega
      have gs : (u64s sm)[0 + ((n : Int) % 5).toNat]? = some (U64 (g64 sm (n % 5))) := by rw [et]; exact u64s_get (by omega)
      have hl2 : 0 + ((n : Int) % 5).toNat < (u64s sm).length := by rw [et, u64s_length]; omega
      (repeat (first | refine CW.seq ?_ | refine QW.then_n ?_ | refine CW.block ?_ | refine CW.ret ?_ | refine CW.skip ?_ | refine CW.exit ?_ | refine QW.then_x ?_ | refine QW.then_r ?_ | refine QW.block_n ?_ | refine QW.block_xe ?_ | refine QW.block_xn rfl ?_ | refine QW.block_r ?_))
      refine CW.region ?_
      refine OW.rv (RV.move rfl) rfl ?_
      refine OW.rv (RV.indexV _ rfl rfl rfl rfl rfl rfl rfl (by omega) (by first | rfl | assumption)) rfl ?_
      refine OW.rv (RV.assign rfl) rfl ?_
      refine OW.rv (RV.assign rfl) rfl ?_
      refine OW.nil ?_
      (repeat (first | refine CW.seq ?_ | refine QW.then_n ?_ | refine CW.block ?_ | refine CW.ret ?_ | refine CW.skip ?_ | refine CW.exit ?_ | refine QW.then_x ?_ | refine QW.then_r ?_ | refine QW.block_n ?_ | refine QW.block_xe ?_ | refine QW.block_xn rfl ?_ | refine QW.block_r ?_))
      (repeat (first | refine CW.seq ?_ | refine QW.then_n ?_ | refine CW.block ?_ | refine CW.ret ?_ | refine CW.skip ?_ | refine CW.exit ?_ | refine QW.then_x ?_ | refine QW.then_r ?_ | refine QW.block_n ?_ | refine QW.block_xe ?_ | refine QW.block_xn rfl ?_ | refine QW.block_r ?_))
      refine CW.region ?_
      refine OW.rv (RV.move rfl) rfl ?_
      (first | refine OW.rv (RV.rem rfl rfl (by omega) (by omega)) rfl ?_ | refine OW.rv (RV.trem rfl rfl (by omega)) rfl ?_)
      (first | refine OW.rv (RV.idx_a _ rfl rfl rfl rfl rfl (by omega)) rfl ?_ | refine OW.rv (RV.idx_az rfl rfl (by omega) rfl rfl (by omega)) rfl ?_)
      (first | refine OW.rv (RV.load rfl (by (repeat (first | exact List.Mem.head _ | assumption | refine List.Mem.tail _ ?_)); done) (by first | rfl | assumption) rfl rfl (by first | rfl | assumption)) rfl ?_ | refine OW.rv (RV.load_at rfl rfl rfl (by (repeat (first | assumption | refine Mem.Says.cons ?_)); done)) rfl ?_)
      refine OW.rv (RV.move rfl) rfl ?_
      refine OW.rv (RV.xor64 rfl (by first | rfl | exact lit64 _ rfl) rfl (by first | rfl | exact lit64 _ rfl)) rfl ?_
      (first | refine OW.rv (RV.idx_a _ rfl rfl rfl rfl rfl (by omega)) rfl ?_ | refine OW.rv (RV.idx_az rfl rfl (by omega) rfl rfl (by omega)) rfl ?_)
      (first | refine OW.sv (SV.store rfl (by first | rfl | assumption) rfl rfl rfl (by first | assumption | (simp; done) | (simp; omega) | omega)) ?_ | (refine OW.rot1 ?_; refine OW.sv (SV.store rfl (by first | rfl | assumption) rfl rfl rfl (by first | assumption | (simp; done) | (simp; omega) | omega)) ?_) | (refine OW.rot2 ?_; refine OW.sv (SV.store rfl (by first | rfl | assumption) rfl rfl rfl (by first | assumption | (simp; done) | (simp; omega) | omega)) ?_) | (refine OW.rot3 ?_; refine OW.sv (SV.store rfl (by first | rfl | assumption) rfl rfl rfl (by first | assumption | (simp; done) | (simp; omega) | omega)) ?_) | (refine OW.rot4 ?_; refine OW.sv (SV.store rfl (by first | rfl | assumption) rfl rfl rfl (by first | assumption | (simp; done) | (simp; omega) | omega)) ?_))
      refine OW.nil ?_
      (repeat (first | refine CW.seq ?_ | refine QW.then_n ?_ | refine CW.block ?_ | refine CW.ret ?_ | refine CW.skip ?_ | refine CW.exit ?_ | refine QW.then_x ?_ | refine QW.then_r ?_ | refine QW.block_n ?_ | refine QW.block_xe ?_ | refine QW.block_xn rfl ?_ | refine QW.block_r ?_))
      (repeat (first | refine CW.seq ?_ | refine QW.then_n ?_ | refine CW.block ?_ | refine CW.ret ?_ | refine CW.skip ?_ | refine CW.exit ?_ | refine QW.then_x ?_ | refine QW.then_r ?_ | refine QW.block_n ?_ | refine QW.block_xe ?_ | refine QW.block_xn rfl ?_ | refine QW.block_r ?_))
      refine CW.region ?_
      refine OW.rv (RV.add rfl rfl (by omega)) rfl ?_
      refine OW.rv (RV.move rfl) rfl ?_
      refine OW.nil ?_
      (repeat (first | refine CW.seq ?_ | refine QW.then_n ?_ | refine CW.block ?_ | refine CW.ret ?_ | refine CW.skip ?_ | refine CW.exit ?_ | refine QW.then_x ?_ | refine QW.then_r ?_ | refine QW.block_n ?_ | refine QW.block_xe ?_ | refine QW.block_xn rfl ?_ | refine QW.block_r ?_))
      refine QW.again (n + 1, sm.set (n % 5) (g64 sm (n % 5) ^^^ g64 A n)) ⟨by show n + 1 ≤ 25; omega, by simp [hsm], fun x hx => ?_⟩ (by show 25 - (n + 1) < 25 - n; omega) ⟨rfl, rfl, rfl, rfl, rfl, rfl, rfl, rfl, rfl, rfl, trivial⟩ (fun _ m => ?_)
      · show g64 (sm.set (n % 5) (g64 sm (n % 5) ^^^ g64 A n)) x = sumTo A x (n + 1)
        rw [g64_set _ _ _ _ (by omega), sumTo_succ]
        by_cases hx2 : x = n % 5
        · subst hx2; rw [if_pos rfl, if_pos rfl, he _ hx]
        · rw [if_neg hx2, if_neg (Ne.symm hx2)]; exact he x hx
      · first | rw [et, u64s_set'] at m | rw [Nat.zero_add, u64s_set'] at m
        exact m
    have hn25 : n = 25 := by omega
    subst hn25
    have hcol : ∀ x, x < 5 → g64 sm x = colS A x := fun x hx => (he x hx).trans (sumTo_all A x hx)
    clear he
    (repeat (first | refine CW.seq ?_ | refine QW.then_n ?_ | refine CW.block ?_ | refine CW.ret ?_ | refine CW.skip ?_ | refine CW.exit ?_ | refine QW.then_x ?_ | refine QW.then_r ?_ | refine QW.block_n ?_ | refine QW.block_xe ?_ | refine QW.block_xn rfl ?_ | refine QW.block_r ?_))
    refine CW.region ?_
    refine OW.alloc (l := u64s (List.replicate 25 0#64)) rfl (by rw [← u64s_rep]; rfl) rfl (fun b10 => ?_)
    refine OW.nil ?_
    (repeat (first | refine CW.seq ?_ | refine QW.then_n ?_ | refine CW.block ?_ | refine CW.ret ?_ | refine CW.skip ?_ | refine CW.exit ?_ | refine QW.then_x ?_ | refine QW.then_r ?_ | refine QW.block_n ?_ | refine QW.block_xe ?_ | refine QW.block_xn rfl ?_ | refine QW.block_r ?_))
    (repeat (first | refine CW.seq ?_ | refine QW.then_n ?_ | refine CW.block ?_ | refine CW.ret ?_ | refine CW.skip ?_ | refine CW.exit ?_ | refine QW.then_x ?_ | refine QW.then_r ?_ | refine QW.block_n ?_ | refine QW.block_xe ?_ | refine QW.block_xn rfl ?_ | refine QW.block_r ?_))
    refine CW.region ?_
    (first | refine OW.rv (RV.loadW rfl (by (repeat (first | exact List.Mem.head _ | assumption | refine List.Mem.tail _ ?_)); done) (by first | rfl | assumption) rfl rfl rfl (by first | assumption | exact (u64s_length _).trans (List.length_replicate ..) | exact (u64s_length _).trans (by assumption) | rfl | (simp; done) | (simp [*]; done) | (simp [*]; rfl))) rfl ?_ | refine OW.rv (RV.loadAo rfl (by (repeat (first | exact List.Mem.head _ | assumption | refine List.Mem.tail _ ?_)); done) (by first | rfl | assumption) rfl rfl rfl (by assumption) (by first | assumption | exact (u64s_length _).trans (List.length_replicate ..) | exact (u64s_length _).trans (by assumption) | rfl | (simp; done) | (simp [*]; done) | (simp [*]; rfl))) rfl ?_ | refine OW.rv (RV.loadAs rfl rfl rfl rfl (by (repeat (first | assumption | refine Mem.Says.cons ?_)); done) (by first | assumption | exact (u64s_length _).trans (List.length_replicate ..) | exact (u64s_length _).trans (by assumption) | rfl | (simp; done) | (simp [*]; done) | (simp [*]; rfl))) rfl ?_)
    refine OW.rv (RV.move rfl) rfl ?_
    refine OW.nil ?_
    (repeat (first | refine CW.seq ?_ | refine QW.then_n ?_ | refine CW.block ?_ | refine CW.ret ?_ | refine CW.skip ?_ | refine CW.exit ?_ | refine QW.then_x ?_ | refine QW.then_r ?_ | refine QW.block_n ?_ | refine QW.block_xe ?_ | refine QW.block_xn rfl ?_ | refine QW.block_r ?_))
    refine CW.loop (σ := Nat × List (BitVec 64)) (fun s => s.1 ≤ 25 ∧ s.2.length = 25 ∧ ∀ k, k < s.1 → g64 s.2 (goesN k) = movedE A k) (fun s => [(1, ptr (some b1) 0), (2, ptr (some b2) 0), (3, ptr (some b3) 0), (4, ptr (some b4) 0), (6, U64 rc), (7, ptr (some b7) 0), (10, ptr (some b10) 0), (19, .agg (u64s roundsL).toArray), (20, .int .i64 (t : Int)), (36, .agg (u64s A).toArray), (37, .int .i64 (s.1 : Int))])
      (fun s => (some b10, blk (u64s s.2) 23) :: (some b7, blk (u64s sm) 65) :: (some b1, blk (u64s A) 23) :: (some b4, blk (i64s goesL) 60) :: (some b3, blk (i64s turnsL) 60) :: (some b2, blk (u64s (List.replicate 25 0#64)) 23) :: M) (fun s => 25 - s.1) (0, List.replicate 25 0#64) ⟨by simp, hz25, fun k hk => by omega⟩ ⟨rfl, rfl, rfl, rfl, rfl, rfl, rfl, rfl, rfl, rfl, rfl, trivial⟩ (fun _ m => m) ?_
    rintro ⟨i, T⟩ ⟨hi, hT, he⟩
    dsimp only at hi hT he ⊢
    (repeat (first | refine CW.seq ?_ | refine QW.then_n ?_ | refine CW.block ?_ | refine CW.ret ?_ | refine CW.skip ?_ | refine CW.exit ?_ | refine QW.then_x ?_ | refine QW.then_r ?_ | refine QW.block_n ?_ | refine QW.block_xe ?_ | refine QW.block_xn rfl ?_ | refine QW.block_r ?_))
    refine CW.region ?_
    refine OW.rv (RV.lss rfl rfl) rfl ?_
    refine OW.nil ?_
    (repeat (first | refine CW.seq ?_ | refine QW.then_n ?_ | refine CW.block ?_ | refine CW.ret ?_ | refine CW.skip ?_ | refine CW.exit ?_ | refine QW.then_x ?_ | refine QW.then_r ?_ | refine QW.block_n ?_ | refine QW.block_xe ?_ | refine QW.block_xn rfl ?_ | refine QW.block_r ?_))
    (first | refine CW.cond_t rfl ?_ | refine CW.cond_f rfl ?_ | refine CW.cond_p rfl (fun hlt2 => ?_) (fun hlt2 => ?_) | refine CW.cond_np rfl (fun hlt2 => ?_) (fun hlt2 => ?_) | refine CW.cond rfl (fun hlt2 => ?_) (fun hlt2 => ?_))
    · have hi2 : i < 25 := by omega
      have hg1 : goesN i < 25 := goes_lt ⟨i, hi2⟩
      have htr : 0 ≤ turnsL.getD i 0 ∧ turnsL.getD i 0 < 64 := turns_in ⟨i, hi2⟩
      have ga : (u64s A)[i]? = some (U64 (g64 A i)) := u64s_get (by omega)
      have e4 : 0 + (((i : Int) + 4) % 5).toNat = (i + 4) % 5 := by omega
      have e1 : 0 + (((i : Int) + 1) % 5).toNat = (i + 1) % 5 := by omega
      have g4 : (u64s sm)[0 + (((i : Int) + 4) % 5).toNat]? = some (U64 (g64 sm ((i + 4) % 5))) := by rw [e4]; exact u64s_get (by omega)
      have g1 : (u64s sm)[0 + (((i : Int) + 1) % 5).toNat]? = some (U64 (g64 sm ((i + 1) % 5))) := by rw [e1]; exact u64s_get (by omega)
      have gg : (i64s goesL)[0 + i]? = some (.int .i64 (goesN i : Int)) := by rw [Nat.zero_add, i64s_get (by omega)]; exact congrArg (fun x => some (Value.int .i64 x)) (goesL_get hi2)
      have gt : (i64s turnsL)[0 + i]? = some (.int .i64 (turnsL.getD i 0)) := by rw [Nat.zero_add]; exact i64s_get (by omega)
      have hl2 : 0 + goesN i < (u64s T).length := by rw [u64s_length]; omega
      (repeat (first | refine CW.seq ?_ | refine QW.then_n ?_ | refine CW.block ?_ | refine CW.ret ?_ | refine CW.skip ?_ | refine CW.exit ?_ | refine QW.then_x ?_ | refine QW.then_r ?_ | refine QW.block_n ?_ | refine QW.block_xe ?_ | refine QW.block_xn rfl ?_ | refine QW.block_r ?_))
      refine CW.region ?_
      refine OW.rv (RV.move rfl) rfl ?_
      refine OW.rv (RV.indexV _ rfl rfl rfl rfl rfl rfl rfl (by omega) (by first | rfl | assumption)) rfl ?_
      refine OW.rv (RV.assign rfl) rfl ?_
      refine OW.rv (RV.assign rfl) rfl ?_
      refine OW.nil ?_
      (repeat (first | refine CW.seq ?_ | refine QW.then_n ?_ | refine CW.block ?_ | refine CW.ret ?_ | refine CW.skip ?_ | refine CW.exit ?_ | refine QW.then_x ?_ | refine QW.then_r ?_ | refine QW.block_n ?_ | refine QW.block_xe ?_ | refine QW.block_xn rfl ?_ | refine QW.block_r ?_))
      (repeat (first | refine CW.seq ?_ | refine QW.then_n ?_ | refine CW.block ?_ | refine CW.ret ?_ | refine CW.skip ?_ | refine CW.exit ?_ | refine QW.then_x ?_ | refine QW.then_r ?_ | refine QW.block_n ?_ | refine QW.block_xe ?_ | refine QW.block_xn rfl ?_ | refine QW.block_r ?_))
      refine CW.draws mixed (by kernel_rfl) ?_
      refine DW.rv (RV.move rfl) rfl ?_
      refine DW.rv (RV.move rfl) rfl ?_
      refine DW.rv (RV.add rfl rfl (by omega)) rfl ?_
      (first | refine DW.rv (RV.rem rfl rfl (by omega) (by omega)) rfl ?_ | refine DW.rv (RV.trem rfl rfl (by omega)) rfl ?_)
      (first | refine DW.rv (RV.idx_a _ rfl rfl rfl rfl rfl (by omega)) rfl ?_ | refine DW.rv (RV.idx_az rfl rfl (by omega) rfl rfl (by omega)) rfl ?_)
      (first | refine DW.rv (RV.load rfl (by (repeat (first | exact List.Mem.head _ | assumption | refine List.Mem.tail _ ?_)); done) (by first | rfl | assumption) rfl rfl (by first | rfl | assumption)) rfl ?_ | refine DW.rv (RV.load_at rfl rfl rfl (by (repeat (first | assumption | refine Mem.Says.cons ?_)); done)) rfl ?_)
      refine DW.rv (RV.move rfl) rfl ?_
      refine DW.rv (RV.add rfl rfl (by omega)) rfl ?_
      (first | refine DW.rv (RV.rem rfl rfl (by omega) (by omega)) rfl ?_ | refine DW.rv (RV.trem rfl rfl (by omega)) rfl ?_)
      (first | refine DW.rv (RV.idx_a _ rfl rfl rfl rfl rfl (by omega)) rfl ?_ | refine DW.rv (RV.idx_az rfl rfl (by omega) rfl rfl (by omega)) rfl ?_)
      (first | refine DW.rv (RV.load rfl (by (repeat (first | exact List.Mem.head _ | assumption | refine List.Mem.tail _ ?_)); done) (by first | rfl | assumption) rfl rfl (by first | rfl | assumption)) rfl ?_ | refine DW.rv (RV.load_at rfl rfl rfl (by (repeat (first | assumption | refine Mem.Says.cons ?_)); done)) rfl ?_)
      refine DW.call _ Tryd.call34 rfl (rotl_does w0 _ _ 1 (by decide) (by decide)) (fun _ _ => rfl) (fun _ _ _ m => m) rfl ?_
      refine DW.rv (RV.xor64 rfl (by first | rfl | exact lit64 _ rfl) rfl (by first | rfl | exact lit64 _ rfl)) rfl ?_
      refine DW.rv (RV.xor64 rfl (by first | rfl | exact lit64 _ rfl) rfl (by first | rfl | exact lit64 _ rfl)) rfl ?_
      refine DW.rv (RV.assign rfl) rfl ?_
      refine DW.nil ?_
      (repeat (first | refine CW.seq ?_ | refine QW.then_n ?_ | refine CW.block ?_ | refine CW.ret ?_ | refine CW.skip ?_ | refine CW.exit ?_ | refine QW.then_x ?_ | refine QW.then_r ?_ | refine QW.block_n ?_ | refine QW.block_xe ?_ | refine QW.block_xn rfl ?_ | refine QW.block_r ?_))
      (repeat (first | refine CW.seq ?_ | refine QW.then_n ?_ | refine CW.block ?_ | refine CW.ret ?_ | refine CW.skip ?_ | refine CW.exit ?_ | refine QW.then_x ?_ | refine QW.then_r ?_ | refine QW.block_n ?_ | refine QW.block_xe ?_ | refine QW.block_xn rfl ?_ | refine QW.block_r ?_))
      refine CW.drawsT 9 mixed (by kernel_rfl) ?_
      refine TW.rv (RV.move rfl) rfl ?_
      (first | refine TW.rv (RV.idx_a _ rfl rfl rfl rfl rfl (by omega)) rfl ?_ | refine TW.rv (RV.idx_az rfl rfl (by omega) rfl rfl (by omega)) rfl ?_)
      (first | refine TW.rv (RV.load rfl (by (repeat (first | exact List.Mem.head _ | assumption | refine List.Mem.tail _ ?_)); done) (by first | rfl | assumption) rfl rfl (by first | rfl | assumption)) rfl ?_ | refine TW.rv (RV.load_at rfl rfl rfl (by (repeat (first | assumption | refine Mem.Says.cons ?_)); done)) rfl ?_)
      refine TW.rv (RV.move rfl) rfl ?_
      refine TW.rv (RV.move rfl) rfl ?_
      (first | refine TW.rv (RV.idx_a _ rfl rfl rfl rfl rfl (by omega)) rfl ?_ | refine TW.rv (RV.idx_az rfl rfl (by omega) rfl rfl (by omega)) rfl ?_)
      (first | refine TW.rv (RV.load rfl (by (repeat (first | exact List.Mem.head _ | assumption | refine List.Mem.tail _ ?_)); done) (by first | rfl | assumption) rfl rfl (by first | rfl | assumption)) rfl ?_ | refine TW.rv (RV.load_at rfl rfl rfl (by (repeat (first | assumption | refine Mem.Says.cons ?_)); done)) rfl ?_)
      refine TW.call _ Tryd.call34 rfl (rotl_does w0 _ _ _ htr.1 htr.2) (fun _ _ => rfl) (fun _ _ _ m => m) rfl ?_
      (first | refine TW.rv (RV.idx_a _ rfl rfl rfl rfl rfl (by omega)) rfl ?_ | refine TW.rv (RV.idx_az rfl rfl (by omega) rfl rfl (by omega)) rfl ?_)
      refine TW.nil ?_
      (first | refine OW.sv (SV.store rfl (by first | rfl | assumption) rfl rfl rfl (by first | assumption | (simp; done) | (simp; omega) | omega)) ?_ | (refine OW.rot1 ?_; refine OW.sv (SV.store rfl (by first | rfl | assumption) rfl rfl rfl (by first | assumption | (simp; done) | (simp; omega) | omega)) ?_) | (refine OW.rot2 ?_; refine OW.sv (SV.store rfl (by first | rfl | assumption) rfl rfl rfl (by first | assumption | (simp; done) | (simp; omega) | omega)) ?_) | (refine OW.rot3 ?_; refine OW.sv (SV.store rfl (by first | rfl | assumption) rfl rfl rfl (by first | assumption | (simp; done) | (simp; omega) | omega)) ?_) | (refine OW.rot4 ?_; refine OW.sv (SV.store rfl (by first | rfl | assumption) rfl rfl rfl (by first | assumption | (simp; done) | (simp; omega) | omega)) ?_))
      refine OW.nil ?_
      (repeat (first | refine CW.seq ?_ | refine QW.then_n ?_ | refine CW.block ?_ | refine CW.ret ?_ | refine CW.skip ?_ | refine CW.exit ?_ | refine QW.then_x ?_ | refine QW.then_r ?_ | refine QW.block_n ?_ | refine QW.block_xe ?_ | refine QW.block_xn rfl ?_ | refine QW.block_r ?_))
      (repeat (first | refine CW.seq ?_ | refine QW.then_n ?_ | refine CW.block ?_ | refine CW.ret ?_ | refine CW.skip ?_ | refine CW.exit ?_ | refine QW.then_x ?_ | refine QW.then_r ?_ | refine QW.block_n ?_ | refine QW.block_xe ?_ | refine QW.block_xn rfl ?_ | refine QW.block_r ?_))
      refine CW.region ?_
      refine OW.rv (RV.add rfl rfl (by omega)) rfl ?_
      refine OW.rv (RV.move rfl) rfl ?_
      refine OW.nil ?_
      (repeat (first | refine CW.seq ?_ | refine QW.then_n ?_ | refine CW.block ?_ | refine CW.ret ?_ | refine CW.skip ?_ | refine CW.exit ?_ | refine QW.then_x ?_ | refine QW.then_r ?_ | refine QW.block_n ?_ | refine QW.block_xe ?_ | refine QW.block_xn rfl ?_ | refine QW.block_r ?_))
      have ev : rotl (g64 A i ^^^ (g64 sm ((i + 4) % 5) ^^^ rotl (g64 sm ((i + 1) % 5)) (1 : Int).toNat)) (turnsL.getD i 0).toNat = movedE A i := by
        rw [hcol _ (by omega), hcol _ (by omega)]; rfl
      refine QW.again (i + 1, T.set (goesN i) (movedE A i)) ⟨by show i + 1 ≤ 25; omega, by simp [hT], fun k hk => ?_⟩ (by show 25 - (i + 1) < 25 - i; omega) ⟨rfl, rfl, rfl, rfl, rfl, rfl, rfl, rfl, rfl, rfl, rfl, trivial⟩ (fun _ m => ?_)
      · have hk' : k < i + 1 := hk
        show g64 (T.set (goesN i) (movedE A i)) (goesN k) = movedE A k
        rw [g64_set _ _ _ _ (by omega)]
        by_cases hk2 : goesN k = goesN i
        · have : (⟨k, by omega⟩ : Fin 25) = ⟨i, hi2⟩ := goes_inj ⟨k, by omega⟩ ⟨i, hi2⟩ hk2
          have hki : k = i := congrArg Fin.val this
          subst hki; rw [if_pos rfl]
        · rw [if_neg hk2]
          exact he k (by
            rcases Nat.lt_or_ge k i with h | h
            · exact h
            · exact absurd (by rw [show k = i by omega]) hk2)
      · rw [ev, Nat.zero_add, u64s_set'] at m
        exact m
    have hi25 : i = 25 := by omega
    subst hi25
    have hTm : T = movedL A := moved_of hT he
    clear he
    subst hTm
    (repeat (first | refine CW.seq ?_ | refine QW.then_n ?_ | refine CW.block ?_ | refine CW.ret ?_ | refine CW.skip ?_ | refine CW.exit ?_ | refine QW.then_x ?_ | refine QW.then_r ?_ | refine QW.block_n ?_ | refine QW.block_xe ?_ | refine QW.block_xn rfl ?_ | refine QW.block_r ?_))
    refine CW.region ?_
    refine OW.rv (RV.assign rfl) rfl ?_
    refine OW.nil ?_
    (repeat (first | refine CW.seq ?_ | refine QW.then_n ?_ | refine CW.block ?_ | refine CW.ret ?_ | refine CW.skip ?_ | refine CW.exit ?_ | refine QW.then_x ?_ | refine QW.then_r ?_ | refine QW.block_n ?_ | refine QW.block_xe ?_ | refine QW.block_xn rfl ?_ | refine QW.block_r ?_))
    have hB : (movedL A).length = 25 := movedL_length A
    have hrd : roundL A rc = (chiL (movedL A)).set 0 (g64 (chiL (movedL A)) 0 ^^^ rc) := roundL_eq A rc
    generalize movedL A = B at hB hrd ⊢
    refine CW.loop (σ := Nat × List (BitVec 64)) (fun s => s.1 ≤ 5 ∧ s.2.length = 25 ∧ ∀ k, k < 5 * s.1 → g64 s.2 k = chiE B k) (fun s => [(1, ptr (some b1) 0), (2, ptr (some b2) 0), (3, ptr (some b3) 0), (4, ptr (some b4) 0), (6, U64 rc), (10, ptr (some b10) 0), (13, .int .i64 ((5 * s.1 : Nat) : Int)), (19, .agg (u64s roundsL).toArray), (20, .int .i64 (t : Int))])
      (fun s => (some b1, blk (u64s s.2) 23) :: (some b10, blk (u64s B) 23) :: (some b4, blk (i64s goesL) 60) :: (some b3, blk (i64s turnsL) 60) :: (some b2, blk (u64s (List.replicate 25 0#64)) 23) :: M) (fun s => 5 - s.1) (0, A) ⟨by simp, hal, fun k hk => by simp at hk⟩ ⟨rfl, rfl, rfl, rfl, rfl, rfl, rfl, rfl, rfl, trivial⟩ (fun _ m => (m.rot2).sublist (List.Sublist.cons_cons _ (List.Sublist.cons_cons _ (List.Sublist.cons _ (List.Sublist.refl _))))) ?_
    clear hn hi hlt hlt2 hcol hT hsm sm
    rintro ⟨r, l⟩ ⟨hr, hl, he⟩
    dsimp only at hr hl he ⊢
    (repeat (first | refine CW.seq ?_ | refine QW.then_n ?_ | refine CW.block ?_ | refine CW.ret ?_ | refine CW.skip ?_ | refine CW.exit ?_ | refine QW.then_x ?_ | refine QW.then_r ?_ | refine QW.block_n ?_ | refine QW.block_xe ?_ | refine QW.block_xn rfl ?_ | refine QW.block_r ?_))
    refine CW.region ?_
    refine OW.rv (RV.move rfl) rfl ?_
    refine OW.rv (RV.lss rfl rfl) rfl ?_
    refine OW.nil ?_
    (repeat (first | refine CW.seq ?_ | refine QW.then_n ?_ | refine CW.block ?_ | refine CW.ret ?_ | refine CW.skip ?_ | refine CW.exit ?_ | refine QW.then_x ?_ | refine QW.then_r ?_ | refine QW.block_n ?_ | refine QW.block_xe ?_ | refine QW.block_xn rfl ?_ | refine QW.block_r ?_))
    (first | refine CW.cond_t rfl ?_ | refine CW.cond_f rfl ?_ | refine CW.cond_p rfl (fun hrlt => ?_) (fun hrlt => ?_) | refine CW.cond_np rfl (fun hrlt => ?_) (fun hrlt => ?_) | refine CW.cond rfl (fun hrlt => ?_) (fun hrlt => ?_))
    · have hr2 : r < 5 := by omega
      (repeat (first | refine CW.seq ?_ | refine QW.then_n ?_ | refine CW.block ?_ | refine CW.ret ?_ | refine CW.skip ?_ | refine CW.exit ?_ | refine QW.then_x ?_ | refine QW.then_r ?_ | refine QW.block_n ?_ | refine QW.block_xe ?_ | refine QW.block_xn rfl ?_ | refine QW.block_r ?_))
      refine CW.region ?_
      refine OW.rv (RV.move rfl) rfl ?_
      refine OW.nil ?_
      (repeat (first | refine CW.seq ?_ | refine QW.then_n ?_ | refine CW.block ?_ | refine CW.ret ?_ | refine CW.skip ?_ | refine CW.exit ?_ | refine QW.then_x ?_ | refine QW.then_r ?_ | refine QW.block_n ?_ | refine QW.block_xe ?_ | refine QW.block_xn rfl ?_ | refine QW.block_r ?_))
      refine CW.loop (σ := Nat × List (BitVec 64)) (fun s => s.1 ≤ 5 ∧ s.2.length = 25 ∧ ∀ k, k < 5 * r + s.1 → g64 s.2 k = chiE B k) (fun s => [(1, ptr (some b1) 0), (2, ptr (some b2) 0), (3, ptr (some b3) 0), (4, ptr (some b4) 0), (6, U64 rc), (10, ptr (some b10) 0), (13, .int .i64 ((5 * r : Nat) : Int)), (19, .agg (u64s roundsL).toArray), (20, .int .i64 (t : Int)), (69, .int .i64 (s.1 : Int))])
        (fun s => (some b1, blk (u64s s.2) 23) :: (some b10, blk (u64s B) 23) :: (some b4, blk (i64s goesL) 60) :: (some b3, blk (i64s turnsL) 60) :: (some b2, blk (u64s (List.replicate 25 0#64)) 23) :: M) (fun s => 5 - s.1) (0, l) ⟨by simp, hl, he⟩ ⟨rfl, rfl, rfl, rfl, rfl, rfl, rfl, rfl, rfl, rfl, trivial⟩ (fun _ m => m) ?_
      clear he hl l
      rintro ⟨x, l⟩ ⟨hx, hl, he⟩
      dsimp only at hx hl he ⊢
      (repeat (first | refine CW.seq ?_ | refine QW.then_n ?_ | refine CW.block ?_ | refine CW.ret ?_ | refine CW.skip ?_ | refine CW.exit ?_ | refine QW.then_x ?_ | refine QW.then_r ?_ | refine QW.block_n ?_ | refine QW.block_xe ?_ | refine QW.block_xn rfl ?_ | refine QW.block_r ?_))
      refine CW.region ?_
      refine OW.rv (RV.lss rfl rfl) rfl ?_
      refine OW.nil ?_
      (repeat (first | refine CW.seq ?_ | refine QW.then_n ?_ | refine CW.block ?_ | refine CW.ret ?_ | refine CW.skip ?_ | refine CW.exit ?_ | refine QW.then_x ?_ | refine QW.then_r ?_ | refine QW.block_n ?_ | refine QW.block_xe ?_ | refine QW.block_xn rfl ?_ | refine QW.block_r ?_))
      (first | refine CW.cond_t rfl ?_ | refine CW.cond_f rfl ?_ | refine CW.cond_p rfl (fun hxlt => ?_) (fun hxlt => ?_) | refine CW.cond_np rfl (fun hxlt => ?_) (fun hxlt => ?_) | refine CW.cond rfl (fun hxlt => ?_) (fun hxlt => ?_))
      · have hx2 : x < 5 := by omega
        have e0 : 0 + (((5 * r : Nat) : Int) + (x : Int)).toNat = 5 * r + x := by omega
        have e1 : 0 + (((5 * r : Nat) : Int) + ((x : Int) + 1) % 5).toNat = 5 * r + (x + 1) % 5 := by omega
        have e2 : 0 + (((5 * r : Nat) : Int) + ((x : Int) + 2) % 5).toNat = 5 * r + (x + 2) % 5 := by omega
        have q0 : (u64s B)[0 + (((5 * r : Nat) : Int) + (x : Int)).toNat]? = some (U64 (g64 B (5 * r + x))) := by rw [e0]; exact u64s_get (by omega)
        have q1 : (u64s B)[0 + (((5 * r : Nat) : Int) + ((x : Int) + 1) % 5).toNat]? = some (U64 (g64 B (5 * r + (x + 1) % 5))) := by rw [e1]; exact u64s_get (by omega)
        have q2 : (u64s B)[0 + (((5 * r : Nat) : Int) + ((x : Int) + 2) % 5).toNat]? = some (U64 (g64 B (5 * r + (x + 2) % 5))) := by rw [e2]; exact u64s_get (by omega)
        have hl2 : 0 + (((5 * r : Nat) : Int) + (x : Int)).toNat < (u64s l).length := by rw [e0, u64s_length]; omega
        (repeat (first | refine CW.seq ?_ | refine QW.then_n ?_ | refine CW.block ?_ | refine CW.ret ?_ | refine CW.skip ?_ | refine CW.exit ?_ | refine QW.then_x ?_ | refine QW.then_r ?_ | refine QW.block_n ?_ | refine QW.block_xe ?_ | refine QW.block_xn rfl ?_ | refine QW.block_r ?_))
        refine CW.region ?_
        refine OW.rv (RV.move rfl) rfl ?_
        refine OW.rv (RV.assign rfl) rfl ?_
        refine OW.nil ?_
        (repeat (first | refine CW.seq ?_ | refine QW.then_n ?_ | refine CW.block ?_ | refine CW.ret ?_ | refine CW.skip ?_ | refine CW.exit ?_ | refine QW.then_x ?_ | refine QW.then_r ?_ | refine QW.block_n ?_ | refine QW.block_xe ?_ | refine QW.block_xn rfl ?_ | refine QW.block_r ?_))
        (repeat (first | refine CW.seq ?_ | refine QW.then_n ?_ | refine CW.block ?_ | refine CW.ret ?_ | refine CW.skip ?_ | refine CW.exit ?_ | refine QW.then_x ?_ | refine QW.then_r ?_ | refine QW.block_n ?_ | refine QW.block_xe ?_ | refine QW.block_xn rfl ?_ | refine QW.block_r ?_))
        refine CW.drawsT 26 mixed (by kernel_rfl) ?_
        refine TW.rv (RV.move rfl) rfl ?_
        refine TW.rv (RV.move rfl) rfl ?_
        refine TW.rv (RV.add rfl rfl (by omega)) rfl ?_
        refine TW.rv (RV.move rfl) rfl ?_
        refine TW.rv (RV.move rfl) rfl ?_
        refine TW.rv (RV.add rfl rfl (by omega)) rfl ?_
        (first | refine TW.rv (RV.idx_a _ rfl rfl rfl rfl rfl (by omega)) rfl ?_ | refine TW.rv (RV.idx_az rfl rfl (by omega) rfl rfl (by omega)) rfl ?_)
        (first | refine TW.rv (RV.load rfl (by (repeat (first | exact List.Mem.head _ | assumption | refine List.Mem.tail _ ?_)); done) (by first | rfl | assumption) rfl rfl (by first | rfl | assumption)) rfl ?_ | refine TW.rv (RV.load_at rfl rfl rfl (by (repeat (first | assumption | refine Mem.Says.cons ?_)); done)) rfl ?_)
        refine TW.rv (RV.move rfl) rfl ?_
        refine TW.rv (RV.move rfl) rfl ?_
        refine TW.rv (RV.add rfl rfl (by omega)) rfl ?_
        (first | refine TW.rv (RV.rem rfl rfl (by omega) (by omega)) rfl ?_ | refine TW.rv (RV.trem rfl rfl (by omega)) rfl ?_)
        refine TW.rv (RV.add rfl rfl (by omega)) rfl ?_
        (first | refine TW.rv (RV.idx_a _ rfl rfl rfl rfl rfl (by omega)) rfl ?_ | refine TW.rv (RV.idx_az rfl rfl (by omega) rfl rfl (by omega)) rfl ?_)
        (first | refine TW.rv (RV.load rfl (by (repeat (first | exact List.Mem.head _ | assumption | refine List.Mem.tail _ ?_)); done) (by first | rfl | assumption) rfl rfl (by first | rfl | assumption)) rfl ?_ | refine TW.rv (RV.load_at rfl rfl rfl (by (repeat (first | assumption | refine Mem.Says.cons ?_)); done)) rfl ?_)
        refine TW.rv (RV.compl64 rfl (by first | rfl | exact lit64 _ rfl)) rfl ?_
        refine TW.rv (RV.move rfl) rfl ?_
        refine TW.rv (RV.move rfl) rfl ?_
        refine TW.rv (RV.add rfl rfl (by omega)) rfl ?_
        (first | refine TW.rv (RV.rem rfl rfl (by omega) (by omega)) rfl ?_ | refine TW.rv (RV.trem rfl rfl (by omega)) rfl ?_)
        refine TW.rv (RV.add rfl rfl (by omega)) rfl ?_
        (first | refine TW.rv (RV.idx_a _ rfl rfl rfl rfl rfl (by omega)) rfl ?_ | refine TW.rv (RV.idx_az rfl rfl (by omega) rfl rfl (by omega)) rfl ?_)
        (first | refine TW.rv (RV.load rfl (by (repeat (first | exact List.Mem.head _ | assumption | refine List.Mem.tail _ ?_)); done) (by first | rfl | assumption) rfl rfl (by first | rfl | assumption)) rfl ?_ | refine TW.rv (RV.load_at rfl rfl rfl (by (repeat (first | assumption | refine Mem.Says.cons ?_)); done)) rfl ?_)
        refine TW.rv (RV.and64 rfl (by first | rfl | exact lit64 _ rfl) rfl (by first | rfl | exact lit64 _ rfl)) rfl ?_
        refine TW.rv (RV.xor64 rfl (by first | rfl | exact lit64 _ rfl) rfl (by first | rfl | exact lit64 _ rfl)) rfl ?_
        (first | refine TW.rv (RV.idx_a _ rfl rfl rfl rfl rfl (by omega)) rfl ?_ | refine TW.rv (RV.idx_az rfl rfl (by omega) rfl rfl (by omega)) rfl ?_)
        refine TW.nil ?_
        (first | refine OW.sv (SV.store rfl (by first | rfl | assumption) rfl rfl rfl (by first | assumption | (simp; done) | (simp; omega) | omega)) ?_ | (refine OW.rot1 ?_; refine OW.sv (SV.store rfl (by first | rfl | assumption) rfl rfl rfl (by first | assumption | (simp; done) | (simp; omega) | omega)) ?_) | (refine OW.rot2 ?_; refine OW.sv (SV.store rfl (by first | rfl | assumption) rfl rfl rfl (by first | assumption | (simp; done) | (simp; omega) | omega)) ?_) | (refine OW.rot3 ?_; refine OW.sv (SV.store rfl (by first | rfl | assumption) rfl rfl rfl (by first | assumption | (simp; done) | (simp; omega) | omega)) ?_) | (refine OW.rot4 ?_; refine OW.sv (SV.store rfl (by first | rfl | assumption) rfl rfl rfl (by first | assumption | (simp; done) | (simp; omega) | omega)) ?_))
        refine OW.nil ?_
        (repeat (first | refine CW.seq ?_ | refine QW.then_n ?_ | refine CW.block ?_ | refine CW.ret ?_ | refine CW.skip ?_ | refine CW.exit ?_ | refine QW.then_x ?_ | refine QW.then_r ?_ | refine QW.block_n ?_ | refine QW.block_xe ?_ | refine QW.block_xn rfl ?_ | refine QW.block_r ?_))
        (repeat (first | refine CW.seq ?_ | refine QW.then_n ?_ | refine CW.block ?_ | refine CW.ret ?_ | refine CW.skip ?_ | refine CW.exit ?_ | refine QW.then_x ?_ | refine QW.then_r ?_ | refine QW.block_n ?_ | refine QW.block_xe ?_ | refine QW.block_xn rfl ?_ | refine QW.block_r ?_))
        refine CW.region ?_
        refine OW.rv (RV.add rfl rfl (by omega)) rfl ?_
        refine OW.rv (RV.move rfl) rfl ?_
        refine OW.nil ?_
        (repeat (first | refine CW.seq ?_ | refine QW.then_n ?_ | refine CW.block ?_ | refine CW.ret ?_ | refine CW.skip ?_ | refine CW.exit ?_ | refine QW.then_x ?_ | refine QW.then_r ?_ | refine QW.block_n ?_ | refine QW.block_xe ?_ | refine QW.block_xn rfl ?_ | refine QW.block_r ?_))
        have ec : chiE B (5 * r + x) = g64 B (5 * r + x) ^^^ (~~~ (g64 B (5 * r + (x + 1) % 5)) &&& g64 B (5 * r + (x + 2) % 5)) := by
          unfold chiE
          rw [show (5 * r + x) / 5 * 5 = 5 * r by omega, show (5 * r + x) % 5 = x by omega]
        refine QW.again (x + 1, l.set (5 * r + x) (chiE B (5 * r + x))) ⟨by show x + 1 ≤ 5; omega, by simp [hl], fun k hk => ?_⟩ (by show 5 - (x + 1) < 5 - x; omega) ⟨rfl, rfl, rfl, rfl, rfl, rfl, rfl, rfl, rfl, rfl, trivial⟩ (fun _ m => ?_)
        · have hk' : k < 5 * r + (x + 1) := hk
          show g64 (l.set (5 * r + x) (chiE B (5 * r + x))) k = chiE B k
          rw [g64_set _ _ _ _ (by omega)]
          by_cases hk2 : k = 5 * r + x
          · subst hk2; rw [if_pos rfl]
          · rw [if_neg hk2]; exact he k (by omega)
        · rw [ec]
          first | rw [e0, u64s_set'] at m | rw [Nat.zero_add, u64s_set'] at m
          exact m
      · (repeat (first | refine CW.seq ?_ | refine QW.then_n ?_ | refine CW.block ?_ | refine CW.ret ?_ | refine CW.skip ?_ | refine CW.exit ?_ | refine QW.then_x ?_ | refine QW.then_r ?_ | refine QW.block_n ?_ | refine QW.block_xe ?_ | refine QW.block_xn rfl ?_ | refine QW.block_r ?_))
        refine CW.region ?_
        refine OW.rv (RV.move rfl) rfl ?_
        refine OW.rv (RV.add rfl rfl (by omega)) rfl ?_
        refine OW.rv (RV.assign rfl) rfl ?_
        refine OW.nil ?_
        (repeat (first | refine CW.seq ?_ | refine QW.then_n ?_ | refine CW.block ?_ | refine CW.ret ?_ | refine CW.skip ?_ | refine CW.exit ?_ | refine QW.then_x ?_ | refine QW.then_r ?_ | refine QW.block_n ?_ | refine QW.block_xe ?_ | refine QW.block_xn rfl ?_ | refine QW.block_r ?_))
        exact QW.again (r + 1, l) ⟨by show r + 1 ≤ 5; omega, hl, fun k hk => he k (by have hk' : k < 5 * (r + 1) := hk; omega)⟩ (by show 5 - (r + 1) < 5 - r; omega) ⟨rfl, rfl, rfl, rfl, rfl, rfl, rfl, rfl, rfl, trivial⟩ (fun _ m => m)
    have hr5 : r = 5 := by omega
    subst hr5
    have hch : l = chiL B := chi_of hl he
    clear he
    subst hch
    have hcl : (chiL B).length = 25 := chiL_length B
    generalize chiL B = C at hrd hcl ⊢
    have q0 : (u64s C)[0 + 0]? = some (U64 (g64 C 0)) := u64s_get (by omega)
    have hl0 : 0 + 0 < (u64s C).length := by rw [u64s_length]; omega
    (repeat (first | refine CW.seq ?_ | refine QW.then_n ?_ | refine CW.block ?_ | refine CW.ret ?_ | refine CW.skip ?_ | refine CW.exit ?_ | refine QW.then_x ?_ | refine QW.then_r ?_ | refine QW.block_n ?_ | refine QW.block_xe ?_ | refine QW.block_xn rfl ?_ | refine QW.block_r ?_))
    refine CW.region ?_
    (first | refine OW.rv (RV.idx_a _ rfl rfl rfl rfl rfl (by omega)) rfl ?_ | refine OW.rv (RV.idx_az rfl rfl (by omega) rfl rfl (by omega)) rfl ?_)
    (first | refine OW.rv (RV.load rfl (by (repeat (first | exact List.Mem.head _ | assumption | refine List.Mem.tail _ ?_)); done) (by first | rfl | assumption) rfl rfl (by first | rfl | assumption)) rfl ?_ | refine OW.rv (RV.load_at rfl rfl rfl (by (repeat (first | assumption | refine Mem.Says.cons ?_)); done)) rfl ?_)
    refine OW.rv (RV.move rfl) rfl ?_
    refine OW.rv (RV.xor64 rfl (by first | rfl | exact lit64 _ rfl) rfl (by first | rfl | exact lit64 _ rfl)) rfl ?_
    (first | refine OW.rv (RV.idx_a _ rfl rfl rfl rfl rfl (by omega)) rfl ?_ | refine OW.rv (RV.idx_az rfl rfl (by omega) rfl rfl (by omega)) rfl ?_)
    (first | refine OW.sv (SV.store rfl (by first | rfl | assumption) rfl rfl rfl (by first | assumption | (simp; done) | (simp; omega) | omega)) ?_ | (refine OW.rot1 ?_; refine OW.sv (SV.store rfl (by first | rfl | assumption) rfl rfl rfl (by first | assumption | (simp; done) | (simp; omega) | omega)) ?_) | (refine OW.rot2 ?_; refine OW.sv (SV.store rfl (by first | rfl | assumption) rfl rfl rfl (by first | assumption | (simp; done) | (simp; omega) | omega)) ?_) | (refine OW.rot3 ?_; refine OW.sv (SV.store rfl (by first | rfl | assumption) rfl rfl rfl (by first | assumption | (simp; done) | (simp; omega) | omega)) ?_) | (refine OW.rot4 ?_; refine OW.sv (SV.store rfl (by first | rfl | assumption) rfl rfl rfl (by first | assumption | (simp; done) | (simp; omega) | omega)) ?_))
    refine OW.nil ?_
    (repeat (first | refine CW.seq ?_ | refine QW.then_n ?_ | refine CW.block ?_ | refine CW.ret ?_ | refine CW.skip ?_ | refine CW.exit ?_ | refine QW.then_x ?_ | refine QW.then_r ?_ | refine QW.block_n ?_ | refine QW.block_xe ?_ | refine QW.block_xn rfl ?_ | refine QW.block_r ?_))
    (repeat (first | refine CW.seq ?_ | refine QW.then_n ?_ | refine CW.block ?_ | refine CW.ret ?_ | refine CW.skip ?_ | refine CW.exit ?_ | refine QW.then_x ?_ | refine QW.then_r ?_ | refine QW.block_n ?_ | refine QW.block_xe ?_ | refine QW.block_xn rfl ?_ | refine QW.block_r ?_))
    refine CW.region ?_
    refine OW.rv (RV.add rfl rfl (by omega)) rfl ?_
    refine OW.rv (RV.move rfl) rfl ?_
    refine OW.nil ?_
    (repeat (first | refine CW.seq ?_ | refine QW.then_n ?_ | refine CW.block ?_ | refine CW.ret ?_ | refine CW.skip ?_ | refine CW.exit ?_ | refine QW.then_x ?_ | refine QW.then_r ?_ | refine QW.block_n ?_ | refine QW.block_xe ?_ | refine QW.block_xn rfl ?_ | refine QW.block_r ?_))
    refine QW.again (t + 1) (by omega) (by omega) ⟨rfl, rfl, rfl, rfl, rfl, rfl, trivial⟩ (fun _ m => ?_)
    rw [hs, hrd, ← u64s_set']
    exact m.sublist (List.Sublist.cons_cons _ (List.Sublist.cons _ (List.Sublist.refl _)))
  · have ht2 : t = 24 := by omega
    subst ht2
    generalize permTo a 24 = A at hal ⊢
    (repeat (first | refine CW.seq ?_ | refine QW.then_n ?_ | refine CW.block ?_ | refine CW.ret ?_ | refine CW.skip ?_ | refine CW.exit ?_ | refine QW.then_x ?_ | refine QW.then_r ?_ | refine QW.block_n ?_ | refine QW.block_xe ?_ | refine QW.block_xn rfl ?_ | refine QW.block_r ?_))
    refine CW.region ?_
    (first | refine OW.rv (RV.loadW rfl (by (repeat (first | exact List.Mem.head _ | assumption | refine List.Mem.tail _ ?_)); done) (by first | rfl | assumption) rfl rfl rfl (by first | assumption | exact (u64s_length _).trans (List.length_replicate ..) | exact (u64s_length _).trans (by assumption) | rfl | (simp; done) | (simp [*]; done) | (simp [*]; rfl))) rfl ?_ | refine OW.rv (RV.loadAo rfl (by (repeat (first | exact List.Mem.head _ | assumption | refine List.Mem.tail _ ?_)); done) (by first | rfl | assumption) rfl rfl rfl (by assumption) (by first | assumption | exact (u64s_length _).trans (List.length_replicate ..) | exact (u64s_length _).trans (by assumption) | rfl | (simp; done) | (simp [*]; done) | (simp [*]; rfl))) rfl ?_ | refine OW.rv (RV.loadAs rfl rfl rfl rfl (by (repeat (first | assumption | refine Mem.Says.cons ?_)); done) (by first | assumption | exact (u64s_length _).trans (List.length_replicate ..) | exact (u64s_length _).trans (by assumption) | rfl | (simp; done) | (simp [*]; done) | (simp [*]; rfl))) rfl ?_)
    (first | (first | refine OW.sv (SV.storeW rfl (by first | rfl | assumption) rfl (by first | exact u64s_one _ | assumption) rfl (by first | assumption | exact (u64s_length _).trans (List.length_replicate ..) | exact (u64s_length _).trans (by assumption) | rfl | (simp; done) | (simp [*]; done) | (simp [*]; rfl)) (by first | assumption | exact (u64s_length _).trans (List.length_replicate ..) | exact (u64s_length _).trans (by assumption) | rfl | (simp; done) | (simp [*]; done) | (simp [*]; rfl))) ?_ | refine OW.sv (SV.storeAs rfl (by first | rfl | assumption) rfl (by first | exact u64s_one _ | assumption) rfl (by first | assumption | exact (u64s_length _).trans (List.length_replicate ..) | exact (u64s_length _).trans (by assumption) | rfl | (simp; done) | (simp [*]; done) | (simp [*]; rfl)) (by first | assumption | (simp; done) | (simp; omega) | omega)) ?_) | (refine OW.rot1 ?_; (first | refine OW.sv (SV.storeW rfl (by first | rfl | assumption) rfl (by first | exact u64s_one _ | assumption) rfl (by first | assumption | exact (u64s_length _).trans (List.length_replicate ..) | exact (u64s_length _).trans (by assumption) | rfl | (simp; done) | (simp [*]; done) | (simp [*]; rfl)) (by first | assumption | exact (u64s_length _).trans (List.length_replicate ..) | exact (u64s_length _).trans (by assumption) | rfl | (simp; done) | (simp [*]; done) | (simp [*]; rfl))) ?_ | refine OW.sv (SV.storeAs rfl (by first | rfl | assumption) rfl (by first | exact u64s_one _ | assumption) rfl (by first | assumption | exact (u64s_length _).trans (List.length_replicate ..) | exact (u64s_length _).trans (by assumption) | rfl | (simp; done) | (simp [*]; done) | (simp [*]; rfl)) (by first | assumption | (simp; done) | (simp; omega) | omega)) ?_)) | (refine OW.rot2 ?_; (first | refine OW.sv (SV.storeW rfl (by first | rfl | assumption) rfl (by first | exact u64s_one _ | assumption) rfl (by first | assumption | exact (u64s_length _).trans (List.length_replicate ..) | exact (u64s_length _).trans (by assumption) | rfl | (simp; done) | (simp [*]; done) | (simp [*]; rfl)) (by first | assumption | exact (u64s_length _).trans (List.length_replicate ..) | exact (u64s_length _).trans (by assumption) | rfl | (simp; done) | (simp [*]; done) | (simp [*]; rfl))) ?_ | refine OW.sv (SV.storeAs rfl (by first | rfl | assumption) rfl (by first | exact u64s_one _ | assumption) rfl (by first | assumption | exact (u64s_length _).trans (List.length_replicate ..) | exact (u64s_length _).trans (by assumption) | rfl | (simp; done) | (simp [*]; done) | (simp [*]; rfl)) (by first | assumption | (simp; done) | (simp; omega) | omega)) ?_)) | (refine OW.rot3 ?_; (first | refine OW.sv (SV.storeW rfl (by first | rfl | assumption) rfl (by first | exact u64s_one _ | assumption) rfl (by first | assumption | exact (u64s_length _).trans (List.length_replicate ..) | exact (u64s_length _).trans (by assumption) | rfl | (simp; done) | (simp [*]; done) | (simp [*]; rfl)) (by first | assumption | exact (u64s_length _).trans (List.length_replicate ..) | exact (u64s_length _).trans (by assumption) | rfl | (simp; done) | (simp [*]; done) | (simp [*]; rfl))) ?_ | refine OW.sv (SV.storeAs rfl (by first | rfl | assumption) rfl (by first | exact u64s_one _ | assumption) rfl (by first | assumption | exact (u64s_length _).trans (List.length_replicate ..) | exact (u64s_length _).trans (by assumption) | rfl | (simp; done) | (simp [*]; done) | (simp [*]; rfl)) (by first | assumption | (simp; done) | (simp; omega) | omega)) ?_)) | (refine OW.rot4 ?_; (first | refine OW.sv (SV.storeW rfl (by first | rfl | assumption) rfl (by first | exact u64s_one _ | assumption) rfl (by first | assumption | exact (u64s_length _).trans (List.length_replicate ..) | exact (u64s_length _).trans (by assumption) | rfl | (simp; done) | (simp [*]; done) | (simp [*]; rfl)) (by first | assumption | exact (u64s_length _).trans (List.length_replicate ..) | exact (u64s_length _).trans (by assumption) | rfl | (simp; done) | (simp [*]; done) | (simp [*]; rfl))) ?_ | refine OW.sv (SV.storeAs rfl (by first | rfl | assumption) rfl (by first | exact u64s_one _ | assumption) rfl (by first | assumption | exact (u64s_length _).trans (List.length_replicate ..) | exact (u64s_length _).trans (by assumption) | rfl | (simp; done) | (simp [*]; done) | (simp [*]; rfl)) (by first | assumption | (simp; done) | (simp; omega) | omega)) ?_)) | (refine OW.rot5 ?_; (first | refine OW.sv (SV.storeW rfl (by first | rfl | assumption) rfl (by first | exact u64s_one _ | assumption) rfl (by first | assumption | exact (u64s_length _).trans (List.length_replicate ..) | exact (u64s_length _).trans (by assumption) | rfl | (simp; done) | (simp [*]; done) | (simp [*]; rfl)) (by first | assumption | exact (u64s_length _).trans (List.length_replicate ..) | exact (u64s_length _).trans (by assumption) | rfl | (simp; done) | (simp [*]; done) | (simp [*]; rfl))) ?_ | refine OW.sv (SV.storeAs rfl (by first | rfl | assumption) rfl (by first | exact u64s_one _ | assumption) rfl (by first | assumption | exact (u64s_length _).trans (List.length_replicate ..) | exact (u64s_length _).trans (by assumption) | rfl | (simp; done) | (simp [*]; done) | (simp [*]; rfl)) (by first | assumption | (simp; done) | (simp; omega) | omega)) ?_)) | (refine OW.rot6 ?_; (first | refine OW.sv (SV.storeW rfl (by first | rfl | assumption) rfl (by first | exact u64s_one _ | assumption) rfl (by first | assumption | exact (u64s_length _).trans (List.length_replicate ..) | exact (u64s_length _).trans (by assumption) | rfl | (simp; done) | (simp [*]; done) | (simp [*]; rfl)) (by first | assumption | exact (u64s_length _).trans (List.length_replicate ..) | exact (u64s_length _).trans (by assumption) | rfl | (simp; done) | (simp [*]; done) | (simp [*]; rfl))) ?_ | refine OW.sv (SV.storeAs rfl (by first | rfl | assumption) rfl (by first | exact u64s_one _ | assumption) rfl (by first | assumption | exact (u64s_length _).trans (List.length_replicate ..) | exact (u64s_length _).trans (by assumption) | rfl | (simp; done) | (simp [*]; done) | (simp [*]; rfl)) (by first | assumption | (simp; done) | (simp; omega) | omega)) ?_)))
    refine OW.nil ?_
    (repeat (first | refine CW.seq ?_ | refine QW.then_n ?_ | refine CW.block ?_ | refine CW.ret ?_ | refine CW.skip ?_ | refine CW.exit ?_ | refine QW.then_x ?_ | refine QW.then_r ?_ | refine QW.block_n ?_ | refine QW.block_xe ?_ | refine QW.block_xn rfl ?_ | refine QW.block_r ?_))
    exact QW.retC1 rfl () trivial rfl (List.Mem.head _) rfl rfl rfl rfl ((u64s_length _).trans hal) rfl (fun _ m => m.sublist (by repeat (first | exact List.Sublist.refl _ | refine List.Sublist.cons _ ?_)))
end Go.Fw.Tryd
