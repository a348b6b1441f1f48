/- Part of a proof over YtgonajfngmeanaaDoor: rules and contracts that the law's text uses. No condition. -/
import Derived.Test.YtgonajfngmeanaaDoorTy
import Derived.Test.YtgonajfngmeanaaDoorFw13
namespace Go.Fw.Tryd
open Go Go.Proofs
set_option maxRecDepth 100000
set_option linter.unusedVariables false

theorem write_nil (w0 : World) (M : List Ent) (v : Value) : Does Tryd.prog 25 [.pointer none, v] w0 M (τ := Unit) (fun _ => True) (fun _ => .tuple #[]) (fun _ => M) := by
  refine Does.enter Tryd.func25 rfl Tryd.ntmps25 rfl ?_
  (repeat (first | refine CW.seq ?_ | refine QW.then_n ?_ | refine CW.block ?_ | refine CW.ret ?_ | refine CW.skip ?_ | refine CW.exit ?_ | refine QW.then_x ?_ | refine QW.then_r ?_ | refine QW.block_n ?_ | refine QW.block_xe ?_ | refine QW.block_xn rfl ?_ | refine QW.block_r ?_))
  refine CW.region ?_
  refine OW.rv (RV.move rfl) rfl ?_
  (first | refine OW.rv (RV.eqlN rfl rfl rfl) rfl ?_ | refine OW.rv (RV.eqlS rfl rfl rfl) rfl ?_)
  refine OW.nil ?_
  (repeat (first | refine CW.seq ?_ | refine QW.then_n ?_ | refine CW.block ?_ | refine CW.ret ?_ | refine CW.skip ?_ | refine CW.exit ?_ | refine QW.then_x ?_ | refine QW.then_r ?_ | refine QW.block_n ?_ | refine QW.block_xe ?_ | refine QW.block_xn rfl ?_ | refine QW.block_r ?_))
  (first | refine CW.cond_t rfl ?_ | refine CW.cond_f rfl ?_ | refine CW.cond_p rfl (fun h => ?_) (fun h => ?_) | refine CW.cond_np rfl (fun h => ?_) (fun h => ?_) | refine CW.cond rfl (fun h => ?_) (fun h => ?_))
  (repeat (first | refine CW.seq ?_ | refine QW.then_n ?_ | refine CW.block ?_ | refine CW.ret ?_ | refine CW.skip ?_ | refine CW.exit ?_ | refine QW.then_x ?_ | refine QW.then_r ?_ | refine QW.block_n ?_ | refine QW.block_xe ?_ | refine QW.block_xn rfl ?_ | refine QW.block_r ?_))
  exact QW.ret0 rfl () trivial rfl (fun _ m => m) _ (by first | exact Or.inl rfl | exact Or.inr rfl)
theorem reset_nil (w0 : World) (M : List Ent) : Does Tryd.prog 26 [.pointer none] w0 M (τ := Unit) (fun _ => True) (fun _ => .tuple #[]) (fun _ => M) := by
  refine Does.enter Tryd.func26 rfl Tryd.ntmps26 rfl ?_
  (repeat (first | refine CW.seq ?_ | refine QW.then_n ?_ | refine CW.block ?_ | refine CW.ret ?_ | refine CW.skip ?_ | refine CW.exit ?_ | refine QW.then_x ?_ | refine QW.then_r ?_ | refine QW.block_n ?_ | refine QW.block_xe ?_ | refine QW.block_xn rfl ?_ | refine QW.block_r ?_))
  refine CW.region ?_
  refine OW.rv (RV.move rfl) rfl ?_
  (first | refine OW.rv (RV.neqN rfl rfl rfl) rfl ?_ | refine OW.rv (RV.neqS rfl rfl rfl) rfl ?_)
  refine OW.nil ?_
  (repeat (first | refine CW.seq ?_ | refine QW.then_n ?_ | refine CW.block ?_ | refine CW.ret ?_ | refine CW.skip ?_ | refine CW.exit ?_ | refine QW.then_x ?_ | refine QW.then_r ?_ | refine QW.block_n ?_ | refine QW.block_xe ?_ | refine QW.block_xn rfl ?_ | refine QW.block_r ?_))
  (first | refine CW.cond_t rfl ?_ | refine CW.cond_f rfl ?_ | refine CW.cond_p rfl (fun h => ?_) (fun h => ?_) | refine CW.cond_np rfl (fun h => ?_) (fun h => ?_) | refine CW.cond rfl (fun h => ?_) (fun h => ?_))
  (repeat (first | refine CW.seq ?_ | refine QW.then_n ?_ | refine CW.block ?_ | refine CW.ret ?_ | refine CW.skip ?_ | refine CW.exit ?_ | refine QW.then_x ?_ | refine QW.then_r ?_ | refine QW.block_n ?_ | refine QW.block_xe ?_ | refine QW.block_xn rfl ?_ | refine QW.block_r ?_))
  exact QW.ret0 rfl () trivial rfl (fun _ m => m) _ (by first | exact Or.inl rfl | exact Or.inr rfl)
theorem len_nil (w0 : World) (M : List Ent) : Does Tryd.prog 27 [.pointer none] w0 M (τ := Unit) (fun _ => True) (fun _ => .int .i64 0) (fun _ => M) := by
  refine Does.enter Tryd.func27 rfl Tryd.ntmps27 rfl ?_
  (repeat (first | refine CW.seq ?_ | refine QW.then_n ?_ | refine CW.block ?_ | refine CW.ret ?_ | refine CW.skip ?_ | refine CW.exit ?_ | refine QW.then_x ?_ | refine QW.then_r ?_ | refine QW.block_n ?_ | refine QW.block_xe ?_ | refine QW.block_xn rfl ?_ | refine QW.block_r ?_))
  refine CW.region ?_
  refine OW.rv (RV.assign rfl) rfl ?_
  refine OW.nil ?_
  (repeat (first | refine CW.seq ?_ | refine QW.then_n ?_ | refine CW.block ?_ | refine CW.ret ?_ | refine CW.skip ?_ | refine CW.exit ?_ | refine QW.then_x ?_ | refine QW.then_r ?_ | refine QW.block_n ?_ | refine QW.block_xe ?_ | refine QW.block_xn rfl ?_ | refine QW.block_r ?_))
  (repeat (first | refine CW.seq ?_ | refine QW.then_n ?_ | refine CW.block ?_ | refine CW.ret ?_ | refine CW.skip ?_ | refine CW.exit ?_ | refine QW.then_x ?_ | refine QW.then_r ?_ | refine QW.block_n ?_ | refine QW.block_xe ?_ | refine QW.block_xn rfl ?_ | refine QW.block_r ?_))
  refine CW.region ?_
  refine OW.rv (RV.move rfl) rfl ?_
  (first | refine OW.rv (RV.eqlN rfl rfl rfl) rfl ?_ | refine OW.rv (RV.eqlS rfl rfl rfl) rfl ?_)
  refine OW.nil ?_
  (repeat (first | refine CW.seq ?_ | refine QW.then_n ?_ | refine CW.block ?_ | refine CW.ret ?_ | refine CW.skip ?_ | refine CW.exit ?_ | refine QW.then_x ?_ | refine QW.then_r ?_ | refine QW.block_n ?_ | refine QW.block_xe ?_ | refine QW.block_xn rfl ?_ | refine QW.block_r ?_))
  (first | refine CW.cond_t rfl ?_ | refine CW.cond_f rfl ?_ | refine CW.cond_p rfl (fun h => ?_) (fun h => ?_) | refine CW.cond_np rfl (fun h => ?_) (fun h => ?_) | refine CW.cond rfl (fun h => ?_) (fun h => ?_))
  (repeat (first | refine CW.seq ?_ | refine QW.then_n ?_ | refine CW.block ?_ | refine CW.ret ?_ | refine CW.skip ?_ | refine CW.exit ?_ | refine QW.then_x ?_ | refine QW.then_r ?_ | refine QW.block_n ?_ | refine QW.block_xe ?_ | refine QW.block_xn rfl ?_ | refine QW.block_r ?_))
  refine CW.region ?_
  refine OW.rv (RV.assign rfl) rfl ?_
  refine OW.nil ?_
  (repeat (first | refine CW.seq ?_ | refine QW.then_n ?_ | refine CW.block ?_ | refine CW.ret ?_ | refine CW.skip ?_ | refine CW.exit ?_ | refine QW.then_x ?_ | refine QW.then_r ?_ | refine QW.block_n ?_ | refine QW.block_xe ?_ | refine QW.block_xn rfl ?_ | refine QW.block_r ?_))
  exact QW.ret1 rfl () trivial rfl (fun _ m => m)
theorem sum_nil (w0 : World) (M : List Ent) : Does Tryd.prog 28 [.pointer none] w0 M (τ := Unit) (fun _ => True) (fun _ => .agg (u8s (List.replicate 32 0#8)).toArray) (fun _ => M) := by
  have hl : (List.replicate 32 0#8).length = 32 := rfl
  refine Does.enter Tryd.func28 rfl Tryd.ntmps28 rfl ?_
  (repeat (first | refine CW.seq ?_ | refine QW.then_n ?_ | refine CW.block ?_ | refine CW.ret ?_ | refine CW.skip ?_ | refine CW.exit ?_ | refine QW.then_x ?_ | refine QW.then_r ?_ | refine QW.block_n ?_ | refine QW.block_xe ?_ | refine QW.block_xn rfl ?_ | refine QW.block_r ?_))
  refine CW.region ?_
  refine OW.alloc (l := u8s (List.replicate 32 0#8)) rfl (by rw [← u8s_rep']; rfl) rfl (fun b2 => ?_)
  refine OW.nil ?_
  (repeat (first | refine CW.seq ?_ | refine QW.then_n ?_ | refine CW.block ?_ | refine CW.ret ?_ | refine CW.skip ?_ | refine CW.exit ?_ | refine QW.then_x ?_ | refine QW.then_r ?_ | refine QW.block_n ?_ | refine QW.block_xe ?_ | refine QW.block_xn rfl ?_ | refine QW.block_r ?_))
  (repeat (first | refine CW.seq ?_ | refine QW.then_n ?_ | refine CW.block ?_ | refine CW.ret ?_ | refine CW.skip ?_ | refine CW.exit ?_ | refine QW.then_x ?_ | refine QW.then_r ?_ | refine QW.block_n ?_ | refine QW.block_xe ?_ | refine QW.block_xn rfl ?_ | refine QW.block_r ?_))
  refine CW.region ?_
  refine OW.rv (RV.move rfl) rfl ?_
  (first | refine OW.rv (RV.eqlN rfl rfl rfl) rfl ?_ | refine OW.rv (RV.eqlS rfl rfl rfl) rfl ?_)
  refine OW.nil ?_
  (repeat (first | refine CW.seq ?_ | refine QW.then_n ?_ | refine CW.block ?_ | refine CW.ret ?_ | refine CW.skip ?_ | refine CW.exit ?_ | refine QW.then_x ?_ | refine QW.then_r ?_ | refine QW.block_n ?_ | refine QW.block_xe ?_ | refine QW.block_xn rfl ?_ | refine QW.block_r ?_))
  (first | refine CW.cond_t rfl ?_ | refine CW.cond_f rfl ?_ | refine CW.cond_p rfl (fun h => ?_) (fun h => ?_) | refine CW.cond_np rfl (fun h => ?_) (fun h => ?_) | refine CW.cond rfl (fun h => ?_) (fun h => ?_))
  (repeat (first | refine CW.seq ?_ | refine QW.then_n ?_ | refine CW.block ?_ | refine CW.ret ?_ | refine CW.skip ?_ | refine CW.exit ?_ | refine QW.then_x ?_ | refine QW.then_r ?_ | refine QW.block_n ?_ | refine QW.block_xe ?_ | refine QW.block_xn rfl ?_ | refine QW.block_r ?_))
  refine CW.region ?_
  refine OW.rv (RV.build0 (l := u8s (List.replicate 32 0#8)) rfl rfl rfl (by rw [← u8s_rep']; rfl)) rfl ?_
  (first | (first | refine OW.sv (SV.storeW rfl (by first | rfl | assumption) rfl (by first | exact u8s_one _ | assumption) rfl (by first | assumption | exact (u8s_length _).trans (List.length_replicate ..) | exact (u8s_length _).trans (by assumption) | rfl | (simp; done) | (simp [*]; done) | (simp [*]; rfl)) (by first | assumption | exact (u8s_length _).trans (List.length_replicate ..) | exact (u8s_length _).trans (by assumption) | rfl | (simp; done) | (simp [*]; done) | (simp [*]; rfl))) ?_ | refine OW.sv (SV.storeAs rfl (by first | rfl | assumption) rfl (by first | exact u8s_one _ | assumption) rfl (by first | assumption | exact (u8s_length _).trans (List.length_replicate ..) | exact (u8s_length _).trans (by assumption) | rfl | (simp; done) | (simp [*]; done) | (simp [*]; rfl)) (by first | assumption | (simp; done) | (simp; omega) | omega)) ?_) | (refine OW.rot1 ?_; (first | refine OW.sv (SV.storeW rfl (by first | rfl | assumption) rfl (by first | exact u8s_one _ | assumption) rfl (by first | assumption | exact (u8s_length _).trans (List.length_replicate ..) | exact (u8s_length _).trans (by assumption) | rfl | (simp; done) | (simp [*]; done) | (simp [*]; rfl)) (by first | assumption | exact (u8s_length _).trans (List.length_replicate ..) | exact (u8s_length _).trans (by assumption) | rfl | (simp; done) | (simp [*]; done) | (simp [*]; rfl))) ?_ | refine OW.sv (SV.storeAs rfl (by first | rfl | assumption) rfl (by first | exact u8s_one _ | assumption) rfl (by first | assumption | exact (u8s_length _).trans (List.length_replicate ..) | exact (u8s_length _).trans (by assumption) | rfl | (simp; done) | (simp [*]; done) | (simp [*]; rfl)) (by first | assumption | (simp; done) | (simp; omega) | omega)) ?_)) | (refine OW.rot2 ?_; (first | refine OW.sv (SV.storeW rfl (by first | rfl | assumption) rfl (by first | exact u8s_one _ | assumption) rfl (by first | assumption | exact (u8s_length _).trans (List.length_replicate ..) | exact (u8s_length _).trans (by assumption) | rfl | (simp; done) | (simp [*]; done) | (simp [*]; rfl)) (by first | assumption | exact (u8s_length _).trans (List.length_replicate ..) | exact (u8s_length _).trans (by assumption) | rfl | (simp; done) | (simp [*]; done) | (simp [*]; rfl))) ?_ | refine OW.sv (SV.storeAs rfl (by first | rfl | assumption) rfl (by first | exact u8s_one _ | assumption) rfl (by first | assumption | exact (u8s_length _).trans (List.length_replicate ..) | exact (u8s_length _).trans (by assumption) | rfl | (simp; done) | (simp [*]; done) | (simp [*]; rfl)) (by first | assumption | (simp; done) | (simp; omega) | omega)) ?_)) | (refine OW.rot3 ?_; (first | refine OW.sv (SV.storeW rfl (by first | rfl | assumption) rfl (by first | exact u8s_one _ | assumption) rfl (by first | assumption | exact (u8s_length _).trans (List.length_replicate ..) | exact (u8s_length _).trans (by assumption) | rfl | (simp; done) | (simp [*]; done) | (simp [*]; rfl)) (by first | assumption | exact (u8s_length _).trans (List.length_replicate ..) | exact (u8s_length _).trans (by assumption) | rfl | (simp; done) | (simp [*]; done) | (simp [*]; rfl))) ?_ | refine OW.sv (SV.storeAs rfl (by first | rfl | assumption) rfl (by first | exact u8s_one _ | assumption) rfl (by first | assumption | exact (u8s_length _).trans (List.length_replicate ..) | exact (u8s_length _).trans (by assumption) | rfl | (simp; done) | (simp [*]; done) | (simp [*]; rfl)) (by first | assumption | (simp; done) | (simp; omega) | omega)) ?_)) | (refine OW.rot4 ?_; (first | refine OW.sv (SV.storeW rfl (by first | rfl | assumption) rfl (by first | exact u8s_one _ | assumption) rfl (by first | assumption | exact (u8s_length _).trans (List.length_replicate ..) | exact (u8s_length _).trans (by assumption) | rfl | (simp; done) | (simp [*]; done) | (simp [*]; rfl)) (by first | assumption | exact (u8s_length _).trans (List.length_replicate ..) | exact (u8s_length _).trans (by assumption) | rfl | (simp; done) | (simp [*]; done) | (simp [*]; rfl))) ?_ | refine OW.sv (SV.storeAs rfl (by first | rfl | assumption) rfl (by first | exact u8s_one _ | assumption) rfl (by first | assumption | exact (u8s_length _).trans (List.length_replicate ..) | exact (u8s_length _).trans (by assumption) | rfl | (simp; done) | (simp [*]; done) | (simp [*]; rfl)) (by first | assumption | (simp; done) | (simp; omega) | omega)) ?_)) | (refine OW.rot5 ?_; (first | refine OW.sv (SV.storeW rfl (by first | rfl | assumption) rfl (by first | exact u8s_one _ | assumption) rfl (by first | assumption | exact (u8s_length _).trans (List.length_replicate ..) | exact (u8s_length _).trans (by assumption) | rfl | (simp; done) | (simp [*]; done) | (simp [*]; rfl)) (by first | assumption | exact (u8s_length _).trans (List.length_replicate ..) | exact (u8s_length _).trans (by assumption) | rfl | (simp; done) | (simp [*]; done) | (simp [*]; rfl))) ?_ | refine OW.sv (SV.storeAs rfl (by first | rfl | assumption) rfl (by first | exact u8s_one _ | assumption) rfl (by first | assumption | exact (u8s_length _).trans (List.length_replicate ..) | exact (u8s_length _).trans (by assumption) | rfl | (simp; done) | (simp [*]; done) | (simp [*]; rfl)) (by first | assumption | (simp; done) | (simp; omega) | omega)) ?_)) | (refine OW.rot6 ?_; (first | refine OW.sv (SV.storeW rfl (by first | rfl | assumption) rfl (by first | exact u8s_one _ | assumption) rfl (by first | assumption | exact (u8s_length _).trans (List.length_replicate ..) | exact (u8s_length _).trans (by assumption) | rfl | (simp; done) | (simp [*]; done) | (simp [*]; rfl)) (by first | assumption | exact (u8s_length _).trans (List.length_replicate ..) | exact (u8s_length _).trans (by assumption) | rfl | (simp; done) | (simp [*]; done) | (simp [*]; rfl))) ?_ | refine OW.sv (SV.storeAs rfl (by first | rfl | assumption) rfl (by first | exact u8s_one _ | assumption) rfl (by first | assumption | exact (u8s_length _).trans (List.length_replicate ..) | exact (u8s_length _).trans (by assumption) | rfl | (simp; done) | (simp [*]; done) | (simp [*]; rfl)) (by first | assumption | (simp; done) | (simp; omega) | omega)) ?_)))
  refine OW.nil ?_
  (repeat (first | refine CW.seq ?_ | refine QW.then_n ?_ | refine CW.block ?_ | refine CW.ret ?_ | refine CW.skip ?_ | refine CW.exit ?_ | refine QW.then_x ?_ | refine QW.then_r ?_ | refine QW.block_n ?_ | refine QW.block_xe ?_ | refine QW.block_xn rfl ?_ | refine QW.block_r ?_))
  exact QW.retC1 rfl () trivial rfl (List.Mem.head _) rfl rfl rfl rfl ((u8s_length _).trans hl) rfl (fun _ m => m.tail)
theorem copy_nil (w0 : World) (M : List Ent) : Does Tryd.prog 29 [.pointer none] w0 M (τ := Unit) (fun _ => True) (fun _ => .pointer none) (fun _ => M) := by
  refine Does.enter Tryd.func29 rfl Tryd.ntmps29 rfl ?_
  (repeat (first | refine CW.seq ?_ | refine QW.then_n ?_ | refine CW.block ?_ | refine CW.ret ?_ | refine CW.skip ?_ | refine CW.exit ?_ | refine QW.then_x ?_ | refine QW.then_r ?_ | refine QW.block_n ?_ | refine QW.block_xe ?_ | refine QW.block_xn rfl ?_ | refine QW.block_r ?_))
  refine CW.region ?_
  refine OW.rv (RV.assign rfl) rfl ?_
  refine OW.nil ?_
  (repeat (first | refine CW.seq ?_ | refine QW.then_n ?_ | refine CW.block ?_ | refine CW.ret ?_ | refine CW.skip ?_ | refine CW.exit ?_ | refine QW.then_x ?_ | refine QW.then_r ?_ | refine QW.block_n ?_ | refine QW.block_xe ?_ | refine QW.block_xn rfl ?_ | refine QW.block_r ?_))
  (repeat (first | refine CW.seq ?_ | refine QW.then_n ?_ | refine CW.block ?_ | refine CW.ret ?_ | refine CW.skip ?_ | refine CW.exit ?_ | refine QW.then_x ?_ | refine QW.then_r ?_ | refine QW.block_n ?_ | refine QW.block_xe ?_ | refine QW.block_xn rfl ?_ | refine QW.block_r ?_))
  refine CW.region ?_
  refine OW.rv (RV.move rfl) rfl ?_
  (first | refine OW.rv (RV.eqlN rfl rfl rfl) rfl ?_ | refine OW.rv (RV.eqlS rfl rfl rfl) rfl ?_)
  refine OW.nil ?_
  (repeat (first | refine CW.seq ?_ | refine QW.then_n ?_ | refine CW.block ?_ | refine CW.ret ?_ | refine CW.skip ?_ | refine CW.exit ?_ | refine QW.then_x ?_ | refine QW.then_r ?_ | refine QW.block_n ?_ | refine QW.block_xe ?_ | refine QW.block_xn rfl ?_ | refine QW.block_r ?_))
  (first | refine CW.cond_t rfl ?_ | refine CW.cond_f rfl ?_ | refine CW.cond_p rfl (fun h => ?_) (fun h => ?_) | refine CW.cond_np rfl (fun h => ?_) (fun h => ?_) | refine CW.cond rfl (fun h => ?_) (fun h => ?_))
  (repeat (first | refine CW.seq ?_ | refine QW.then_n ?_ | refine CW.block ?_ | refine CW.ret ?_ | refine CW.skip ?_ | refine CW.exit ?_ | refine QW.then_x ?_ | refine QW.then_r ?_ | refine QW.block_n ?_ | refine QW.block_xe ?_ | refine QW.block_xn rfl ?_ | refine QW.block_r ?_))
  refine CW.region ?_
  refine OW.rv (RV.assign rfl) rfl ?_
  refine OW.nil ?_
  (repeat (first | refine CW.seq ?_ | refine QW.then_n ?_ | refine CW.block ?_ | refine CW.ret ?_ | refine CW.skip ?_ | refine CW.exit ?_ | refine QW.then_x ?_ | refine QW.then_r ?_ | refine QW.block_n ?_ | refine QW.block_xe ?_ | refine QW.block_xn rfl ?_ | refine QW.block_r ?_))
  exact QW.ret1 rfl () trivial rfl (fun _ m => m)
theorem shaNil_does (w0 : World) (M : List Ent) : Does Tryd.prog 6 [] w0 M (τ := Unit) (fun _ => True) (fun _ => .bool true) (fun _ => M) := by
  have hl : (List.replicate 32 0#8).length = 32 := rfl
  refine Does.enter Tryd.func6 rfl Tryd.ntmps6 rfl ?_
  (repeat (first | refine CW.seq ?_ | refine QW.then_n ?_ | refine CW.block ?_ | refine CW.ret ?_ | refine CW.skip ?_ | refine CW.exit ?_ | refine QW.then_x ?_ | refine QW.then_r ?_ | refine QW.block_n ?_ | refine QW.block_xe ?_ | refine QW.block_xn rfl ?_ | refine QW.block_r ?_))
  refine CW.region ?_
  refine OW.rv (RV.assign rfl) rfl ?_
  refine OW.nil ?_
  (repeat (first | refine CW.seq ?_ | refine QW.then_n ?_ | refine CW.block ?_ | refine CW.ret ?_ | refine CW.skip ?_ | refine CW.exit ?_ | refine QW.then_x ?_ | refine QW.then_r ?_ | refine QW.block_n ?_ | refine QW.block_xe ?_ | refine QW.block_xn rfl ?_ | refine QW.block_r ?_))
  (repeat (first | refine CW.seq ?_ | refine QW.then_n ?_ | refine CW.block ?_ | refine CW.ret ?_ | refine CW.skip ?_ | refine CW.exit ?_ | refine QW.then_x ?_ | refine QW.then_r ?_ | refine QW.block_n ?_ | refine QW.block_xe ?_ | refine QW.block_xn rfl ?_ | refine QW.block_r ?_))
  refine CW.region ?_
  refine OW.rv (RV.assign rfl) rfl ?_
  refine OW.nil ?_
  (repeat (first | refine CW.seq ?_ | refine QW.then_n ?_ | refine CW.block ?_ | refine CW.ret ?_ | refine CW.skip ?_ | refine CW.exit ?_ | refine QW.then_x ?_ | refine QW.then_r ?_ | refine QW.block_n ?_ | refine QW.block_xe ?_ | refine QW.block_xn rfl ?_ | refine QW.block_r ?_))
  (repeat (first | refine CW.seq ?_ | refine QW.then_n ?_ | refine CW.block ?_ | refine CW.ret ?_ | refine CW.skip ?_ | refine CW.exit ?_ | refine QW.then_x ?_ | refine QW.then_r ?_ | refine QW.block_n ?_ | refine QW.block_xe ?_ | refine QW.block_xn rfl ?_ | refine QW.block_r ?_))
  refine CW.region ?_
  refine OW.rv (RV.move rfl) rfl ?_
  refine OW.bs1 rfl rfl rfl rfl rfl rfl rfl (fun b3 => ?_)
  refine OW.call Tryd.call25 rfl (write_nil w0 _ _) rfl (fun u hu => ?_)
  refine OW.nil ?_
  (repeat (first | refine CW.seq ?_ | refine QW.then_n ?_ | refine CW.block ?_ | refine CW.ret ?_ | refine CW.skip ?_ | refine CW.exit ?_ | refine QW.then_x ?_ | refine QW.then_r ?_ | refine QW.block_n ?_ | refine QW.block_xe ?_ | refine QW.block_xn rfl ?_ | refine QW.block_r ?_))
  (repeat (first | refine CW.seq ?_ | refine QW.then_n ?_ | refine CW.block ?_ | refine CW.ret ?_ | refine CW.skip ?_ | refine CW.exit ?_ | refine QW.then_x ?_ | refine QW.then_r ?_ | refine QW.block_n ?_ | refine QW.block_xe ?_ | refine QW.block_xn rfl ?_ | refine QW.block_r ?_))
  refine CW.region ?_
  refine OW.rv (RV.move rfl) rfl ?_
  refine OW.call Tryd.call26 rfl (reset_nil w0 _) rfl (fun u hu => ?_)
  refine OW.nil ?_
  (repeat (first | refine CW.seq ?_ | refine QW.then_n ?_ | refine CW.block ?_ | refine CW.ret ?_ | refine CW.skip ?_ | refine CW.exit ?_ | refine QW.then_x ?_ | refine QW.then_r ?_ | refine QW.block_n ?_ | refine QW.block_xe ?_ | refine QW.block_xn rfl ?_ | refine QW.block_r ?_))
  (repeat (first | refine CW.seq ?_ | refine QW.then_n ?_ | refine CW.block ?_ | refine CW.ret ?_ | refine CW.skip ?_ | refine CW.exit ?_ | refine QW.then_x ?_ | refine QW.then_r ?_ | refine QW.block_n ?_ | refine QW.block_xe ?_ | refine QW.block_xn rfl ?_ | refine QW.block_r ?_))
  refine CW.region ?_
  refine OW.rv (RV.move rfl) rfl ?_
  refine OW.call Tryd.call27 rfl (len_nil w0 _) rfl (fun u hu => ?_)
  (first | refine OW.rv (RV.eql_t rfl rfl (by omega)) rfl ?_ | refine OW.rv (RV.eql_f rfl rfl (by omega)) rfl ?_ | refine OW.rv (RV.eql rfl rfl) rfl ?_)
  refine OW.rv (RV.move rfl) rfl ?_
  (first | (refine OW.want rfl ?_; refine OW.rv (RV.move rfl) rfl ?_) | refine OW.skip rfl rfl rfl ?_)
  (first | (refine OW.want rfl ?_; refine OW.call Tryd.call28 rfl (sum_nil w0 _) rfl (fun u hu => ?_)) | refine OW.skip rfl rfl rfl ?_)
  (first | (refine OW.want rfl ?_; refine OW.rv (RV.build0 (l := u8s (List.replicate 32 0#8)) rfl rfl rfl (by rw [← u8s_rep']; rfl)) rfl ?_) | refine OW.skip rfl rfl rfl ?_)
  (first | (refine OW.want rfl ?_; (first | refine OW.rv (RV.eqA8_t rfl rfl rfl rfl rfl rfl (by first | assumption | rfl | (simp; done) | (simp [*]; done) | (simp [*]; rfl)) (by first | rfl | assumption)) rfl ?_ | refine OW.rv (RV.eqA8 rfl rfl rfl rfl rfl rfl (by first | assumption | rfl | (simp; done) | (simp [*]; done) | (simp [*]; rfl)) (by first | assumption | rfl | (simp; done) | (simp [*]; done) | (simp [*]; rfl))) rfl ?_)) | refine OW.skip rfl rfl rfl ?_)
  (first | refine OW.rv (RV.pick_t rfl rfl rfl) rfl ?_ | refine OW.rv (RV.pick_f rfl rfl rfl) rfl ?_ | refine OW.rv (RV.pick rfl rfl rfl) rfl ?_)
  refine OW.rv (RV.move rfl) rfl ?_
  (first | (refine OW.want rfl ?_; refine OW.rv (RV.move rfl) rfl ?_) | refine OW.skip rfl rfl rfl ?_)
  (first | (refine OW.want rfl ?_; refine OW.call Tryd.call29 rfl (copy_nil w0 _) rfl (fun u hu => ?_)) | refine OW.skip rfl rfl rfl ?_)
  (first | (refine OW.want rfl ?_; (first | refine OW.rv (RV.eqlN rfl rfl rfl) rfl ?_ | refine OW.rv (RV.eqlS rfl rfl rfl) rfl ?_)) | refine OW.skip rfl rfl rfl ?_)
  (first | refine OW.rv (RV.pick_t rfl rfl rfl) rfl ?_ | refine OW.rv (RV.pick_f rfl rfl rfl) rfl ?_ | refine OW.rv (RV.pick rfl rfl rfl) rfl ?_)
  refine OW.rv (RV.assign rfl) rfl ?_
  refine OW.nil ?_
  (repeat (first | refine CW.seq ?_ | refine QW.then_n ?_ | refine CW.block ?_ | refine CW.ret ?_ | refine CW.skip ?_ | refine CW.exit ?_ | refine QW.then_x ?_ | refine QW.then_r ?_ | refine QW.block_n ?_ | refine QW.block_xe ?_ | refine QW.block_xn rfl ?_ | refine QW.block_r ?_))
  exact QW.ret1 rfl () trivial rfl (fun _ m => m.tail)
end Go.Fw.Tryd
