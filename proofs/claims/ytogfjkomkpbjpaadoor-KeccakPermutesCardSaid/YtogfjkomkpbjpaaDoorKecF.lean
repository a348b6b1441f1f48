/- Part of a proof over YtogfjkomkpbjpaaDoor: rules and contracts that the law's text uses. No condition. -/
import Derived.Test.YtogfjkomkpbjpaaDoorKecE
namespace Go.Fw.Tryd
open Go Go.Proofs
set_option maxRecDepth 100000
set_option linter.unusedVariables false
attribute [local irreducible] permTo roundL movedL chiL sumTo mvL

theorem keccakPermutes_does (w0 : World) (M : List Ent) (hTn : ∀ i, i < 25 → w0.cell? ⟨2, i, none⟩ = some (.int .i64 (turnsL.getD i 0))) (hRn : ∀ i, i < 24 → w0.cell? ⟨0, i, none⟩ = some (U64 (g64 roundsL i))) (a : List (BitVec 64)) (ha : a.length = 25) : Does Tryd.prog 3 [.agg (u64s a).toArray] w0 M (τ := Unit) (fun _ => True) (fun _ => .bool true) (fun _ => M) := by
  have hpl : (permL a).length = 25 := permTo_length ha 24
  refine Does.enter Tryd.func3 rfl Tryd.ntmps3 rfl ?_
  (repeat (first | refine CW.seq ?_ | refine QW.then_n ?_ | refine CW.block ?_ | refine CW.ret ?_ | refine CW.skip ?_ | refine CW.exit ?_ | refine QW.then_x ?_ | refine QW.then_r ?_ | refine QW.block_n ?_ | refine QW.block_xe ?_ | refine QW.block_xn rfl ?_ | refine QW.block_r ?_))
  refine CW.region ?_
  refine OW.boxA rfl rfl (fun b1 => ?_)
  refine OW.rv (RV.assign rfl) rfl ?_
  refine OW.nil ?_
  (repeat (first | refine CW.seq ?_ | refine QW.then_n ?_ | refine CW.block ?_ | refine CW.ret ?_ | refine CW.skip ?_ | refine CW.exit ?_ | refine QW.then_x ?_ | refine QW.then_r ?_ | refine QW.block_n ?_ | refine QW.block_xe ?_ | refine QW.block_xn rfl ?_ | refine QW.block_r ?_))
  (repeat (first | refine CW.seq ?_ | refine QW.then_n ?_ | refine CW.block ?_ | refine CW.ret ?_ | refine CW.skip ?_ | refine CW.exit ?_ | refine QW.then_x ?_ | refine QW.then_r ?_ | refine QW.block_n ?_ | refine QW.block_xe ?_ | refine QW.block_xn rfl ?_ | refine QW.block_r ?_))
  refine CW.draws mixed (by kernel_rfl) ?_
  (first | refine DW.rv (RV.loadW rfl (by (repeat (first | exact List.Mem.head _ | assumption | refine List.Mem.tail _ ?_)); done) (by first | rfl | assumption) rfl rfl rfl (by first | assumption | exact (u64s_length _).trans (List.length_replicate ..) | exact (u64s_length _).trans (by assumption) | rfl | (simp; done) | (simp [*]; done) | (simp [*]; rfl))) rfl ?_ | refine DW.rv (RV.loadAo rfl (by (repeat (first | exact List.Mem.head _ | assumption | refine List.Mem.tail _ ?_)); done) (by first | rfl | assumption) rfl rfl rfl (by assumption) (by first | assumption | exact (u64s_length _).trans (List.length_replicate ..) | exact (u64s_length _).trans (by assumption) | rfl | (simp; done) | (simp [*]; done) | (simp [*]; rfl))) rfl ?_ | refine DW.rv (RV.loadAs rfl rfl rfl rfl (by (repeat (first | assumption | refine Mem.Says.cons ?_)); done) (by first | assumption | exact (u64s_length _).trans (List.length_replicate ..) | exact (u64s_length _).trans (by assumption) | rfl | (simp; done) | (simp [*]; done) | (simp [*]; rfl))) rfl ?_)
  refine DW.call _ Tryd.call9 rfl (perm_does w0 _ a ha) (fun _ _ => rfl) (fun _ _ _ m => m) rfl ?_
  (first | refine DW.rv (RV.loadW rfl (by (repeat (first | exact List.Mem.head _ | assumption | refine List.Mem.tail _ ?_)); done) (by first | rfl | assumption) rfl rfl rfl (by first | assumption | exact (u64s_length _).trans (List.length_replicate ..) | exact (u64s_length _).trans (by assumption) | rfl | (simp; done) | (simp [*]; done) | (simp [*]; rfl))) rfl ?_ | refine DW.rv (RV.loadAo rfl (by (repeat (first | exact List.Mem.head _ | assumption | refine List.Mem.tail _ ?_)); done) (by first | rfl | assumption) rfl rfl rfl (by assumption) (by first | assumption | exact (u64s_length _).trans (List.length_replicate ..) | exact (u64s_length _).trans (by assumption) | rfl | (simp; done) | (simp [*]; done) | (simp [*]; rfl))) rfl ?_ | refine DW.rv (RV.loadAs rfl rfl rfl rfl (by (repeat (first | assumption | refine Mem.Says.cons ?_)); done) (by first | assumption | exact (u64s_length _).trans (List.length_replicate ..) | exact (u64s_length _).trans (by assumption) | rfl | (simp; done) | (simp [*]; done) | (simp [*]; rfl))) rfl ?_)
  refine DW.call _ Tryd.call10 rfl (rperm_does w0 _ hTn hRn a ha) (fun _ _ => rfl) (fun _ _ _ m => m) rfl ?_
  (first | refine DW.rv (RV.eqA64_t rfl rfl rfl rfl rfl rfl (by first | assumption | rfl | (simp; done) | (simp [*]; done) | (simp [*]; rfl)) (by first | rfl | assumption)) rfl ?_ | refine DW.rv (RV.eqA64 rfl rfl rfl rfl rfl rfl (by first | assumption | rfl | (simp; done) | (simp [*]; done) | (simp [*]; rfl)) (by first | assumption | rfl | (simp; done) | (simp [*]; done) | (simp [*]; rfl))) rfl ?_)
  refine DW.rv (RV.assign rfl) rfl ?_
  refine DW.nil ?_
  (repeat (first | refine CW.seq ?_ | refine QW.then_n ?_ | refine CW.block ?_ | refine CW.ret ?_ | refine CW.skip ?_ | refine CW.exit ?_ | refine QW.then_x ?_ | refine QW.then_r ?_ | refine QW.block_n ?_ | refine QW.block_xe ?_ | refine QW.block_xn rfl ?_ | refine QW.block_r ?_))
  exact QW.ret1 rfl () trivial rfl (fun _ m => m.tail)
end Go.Fw.Tryd
