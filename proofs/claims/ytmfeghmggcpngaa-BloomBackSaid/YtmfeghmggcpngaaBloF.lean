/- Part of a proof over Ytmfeghmggcpngaa: rules and contracts that the law's text uses. No condition. -/
import Derived.Test.YtmfeghmggcpngaaBloE
import Derived.Test.YtmfeghmggcpngaaBloP
namespace Go.Fw.Try
open Go Go.Proofs
set_option maxRecDepth 100000
set_option linter.unusedVariables false

theorem within_does (w0 : World) (M : List Ent) (a b : List (BitVec 8)) (ha : a.length = 256) (hb : b.length = 256) {v : Bool} (hv : decide (orB a b = b) = v) : Does Try.prog 12 [.agg (u8s a).toArray, .agg (u8s b).toArray] w0 M (τ := Unit) (fun _ => True) (fun _ => .bool v) (fun q => M) := by
  subst hv
  have hu : unionB [a, b] = orB a b := by
    show orB (orB zeroB a) b = _
    rw [orB_zero ha]
  have ho := orB_length ha hb
  refine Does.enter Try.func12 rfl Try.ntmps12 rfl ?_
  (repeat (first | refine CW.seq ?_ | refine QW.then_n ?_ | refine CW.block ?_ | refine CW.ret ?_ | refine CW.skip ?_ | refine CW.exit ?_ | refine QW.then_x ?_ | refine QW.then_r ?_ | refine QW.block_n ?_ | refine QW.block_xe ?_ | refine QW.block_xn rfl ?_ | refine QW.block_r ?_))
  refine CW.region ?_
  refine OW.boxA rfl rfl (fun b2 => ?_)
  refine OW.boxA rfl rfl (fun b3 => ?_)
  refine OW.rv (RV.assign rfl) rfl ?_
  refine OW.nil ?_
  (repeat (first | refine CW.seq ?_ | refine QW.then_n ?_ | refine CW.block ?_ | refine CW.ret ?_ | refine CW.skip ?_ | refine CW.exit ?_ | refine QW.then_x ?_ | refine QW.then_r ?_ | refine QW.block_n ?_ | refine QW.block_xe ?_ | refine QW.block_xn rfl ?_ | refine QW.block_r ?_))
  (repeat (first | refine CW.seq ?_ | refine QW.then_n ?_ | refine CW.block ?_ | refine CW.ret ?_ | refine CW.skip ?_ | refine CW.exit ?_ | refine QW.then_x ?_ | refine QW.then_r ?_ | refine QW.block_n ?_ | refine QW.block_xe ?_ | refine QW.block_xn rfl ?_ | refine QW.block_r ?_))
  refine CW.drawsU 7 mixed (by kernel_rfl) rfl ?_
  (first | refine UW.rv 0 rfl (by kernel_rfl) rfl (RV.loadW rfl (by (repeat (first | exact List.Mem.head _ | refine List.Mem.tail _ ?_)); done) (by first | rfl | assumption) rfl rfl rfl (by first | assumption | rfl | exact (u8s_length _).trans (by assumption) | exact (u64s_length _).trans (by assumption) | exact (u32s_length _).trans (by assumption) | (simp; done) | (simp [*]; done) | (simp [*]; rfl))) rfl ?_ | refine UW.rv 0 rfl (by kernel_rfl) rfl (RV.loadAo rfl (by (repeat (first | exact List.Mem.head _ | refine List.Mem.tail _ ?_)); done) (by first | rfl | assumption) rfl rfl rfl (by assumption) (by first | assumption | rfl | exact (u8s_length _).trans (by assumption) | exact (u64s_length _).trans (by assumption) | exact (u32s_length _).trans (by assumption) | (simp; done) | (simp [*]; done) | (simp [*]; rfl))) rfl ?_ | refine UW.rv 0 rfl (by kernel_rfl) rfl (RV.loadAs rfl rfl rfl rfl (by (repeat (first | assumption | refine Mem.Says.cons ?_)); done) (by first | assumption | rfl | exact (u8s_length _).trans (by assumption) | exact (u64s_length _).trans (by assumption) | exact (u32s_length _).trans (by assumption) | (simp; done) | (simp [*]; done) | (simp [*]; rfl))) rfl ?_)
  (first | refine UW.rv 1 rfl (by kernel_rfl) rfl (RV.loadW rfl (by (repeat (first | exact List.Mem.head _ | refine List.Mem.tail _ ?_)); done) (by first | rfl | assumption) rfl rfl rfl (by first | assumption | rfl | exact (u8s_length _).trans (by assumption) | exact (u64s_length _).trans (by assumption) | exact (u32s_length _).trans (by assumption) | (simp; done) | (simp [*]; done) | (simp [*]; rfl))) rfl ?_ | refine UW.rv 1 rfl (by kernel_rfl) rfl (RV.loadAo rfl (by (repeat (first | exact List.Mem.head _ | refine List.Mem.tail _ ?_)); done) (by first | rfl | assumption) rfl rfl rfl (by assumption) (by first | assumption | rfl | exact (u8s_length _).trans (by assumption) | exact (u64s_length _).trans (by assumption) | exact (u32s_length _).trans (by assumption) | (simp; done) | (simp [*]; done) | (simp [*]; rfl))) rfl ?_ | refine UW.rv 1 rfl (by kernel_rfl) rfl (RV.loadAs rfl rfl rfl rfl (by (repeat (first | assumption | refine Mem.Says.cons ?_)); done) (by first | assumption | rfl | exact (u8s_length _).trans (by assumption) | exact (u64s_length _).trans (by assumption) | exact (u32s_length _).trans (by assumption) | (simp; done) | (simp [*]; done) | (simp [*]; rfl))) rfl ?_)
  (first | refine UW.rv 4 rfl (by kernel_rfl) rfl (RV.loadW rfl (by (repeat (first | exact List.Mem.head _ | refine List.Mem.tail _ ?_)); done) (by first | rfl | assumption) rfl rfl rfl (by first | assumption | rfl | exact (u8s_length _).trans (by assumption) | exact (u64s_length _).trans (by assumption) | exact (u32s_length _).trans (by assumption) | (simp; done) | (simp [*]; done) | (simp [*]; rfl))) rfl ?_ | refine UW.rv 4 rfl (by kernel_rfl) rfl (RV.loadAo rfl (by (repeat (first | exact List.Mem.head _ | refine List.Mem.tail _ ?_)); done) (by first | rfl | assumption) rfl rfl rfl (by assumption) (by first | assumption | rfl | exact (u8s_length _).trans (by assumption) | exact (u64s_length _).trans (by assumption) | exact (u32s_length _).trans (by assumption) | (simp; done) | (simp [*]; done) | (simp [*]; rfl))) rfl ?_ | refine UW.rv 4 rfl (by kernel_rfl) rfl (RV.loadAs rfl rfl rfl rfl (by (repeat (first | assumption | refine Mem.Says.cons ?_)); done) (by first | assumption | rfl | exact (u8s_length _).trans (by assumption) | exact (u64s_length _).trans (by assumption) | exact (u32s_length _).trans (by assumption) | (simp; done) | (simp [*]; done) | (simp [*]; rfl))) rfl ?_)
  refine UW.new 2 rfl (by kernel_rfl) rfl (NV.bsA rfl rfl (by first | (simp [*]; done) | (simp [*]; rfl) | (simp [*]; exact ⟨rfl, rfl⟩)) rfl rfl rfl (by decide) (by decide) rfl) rfl (fun b7 => ?_)
  refine UW.call 3 _ rfl (by kernel_rfl) rfl Try.call10 rfl (fun M1 hM1 => union_does w0 M1 _ _ [a, b] (fun w m => by simpa using (hM1 w m).rdl (ob := some b7) (l := u8s a ++ (u8s b ++ [])) (List.Mem.head _) (fun h => nomatch h)) rfl (by decide) (by simp [ha, hb])) (fun _ _ => rfl) rfl ?_
  refine UW.rv 5 rfl (by kernel_rfl) rfl (RV.eqA8 rfl rfl rfl rfl rfl rfl (by first | assumption | rfl | exact (u8s_length _).trans (by assumption) | exact (u64s_length _).trans (by assumption) | exact (u32s_length _).trans (by assumption) | (simp; done) | (simp [*]; done) | (simp [*]; rfl)) (by first | assumption | rfl | exact (u8s_length _).trans (by assumption) | exact (u64s_length _).trans (by assumption) | exact (u32s_length _).trans (by assumption) | (simp; done) | (simp [*]; done) | (simp [*]; rfl))) rfl ?_
  refine UW.rv 6 rfl (by kernel_rfl) rfl (RV.assign rfl) rfl ?_
  refine UW.nil (by kernel_rfl) ?_
  refine OW.nil ?_
  (repeat (first | refine CW.seq ?_ | refine QW.then_n ?_ | refine CW.block ?_ | refine CW.ret ?_ | refine CW.skip ?_ | refine CW.exit ?_ | refine QW.then_x ?_ | refine QW.then_r ?_ | refine QW.block_n ?_ | refine QW.block_xe ?_ | refine QW.block_xn rfl ?_ | refine QW.block_r ?_))
  exact QW.ret1 rfl () trivial (by rw [hu]; rfl) (fun _ m => m.tail.tail.tail)

theorem rwithin_does (w0 : World) (M : List Ent) (a b : List (BitVec 8)) (ha : a.length = 256) (hb : b.length = 256) {v : Bool} (hv : decide (orB a b = b) = v) : Does Try.prog 13 [.agg (u8s a).toArray, .agg (u8s b).toArray] w0 M (τ := Unit) (fun _ => True) (fun _ => .bool v) (fun q => M) := by
  refine Does.enter Try.func13 rfl Try.ntmps13 rfl ?_
  (repeat (first | refine CW.seq ?_ | refine QW.then_n ?_ | refine CW.block ?_ | refine CW.ret ?_ | refine CW.skip ?_ | refine CW.exit ?_ | refine QW.then_x ?_ | refine QW.then_r ?_ | refine QW.block_n ?_ | refine QW.block_xe ?_ | refine QW.block_xn rfl ?_ | refine QW.block_r ?_))
  refine CW.region ?_
  refine OW.boxA rfl rfl (fun b2 => ?_)
  refine OW.boxA rfl rfl (fun b3 => ?_)
  refine OW.rv (RV.assign rfl) rfl ?_
  refine OW.nil ?_
  (repeat (first | refine CW.seq ?_ | refine QW.then_n ?_ | refine CW.block ?_ | refine CW.ret ?_ | refine CW.skip ?_ | refine CW.exit ?_ | refine QW.then_x ?_ | refine QW.then_r ?_ | refine QW.block_n ?_ | refine QW.block_xe ?_ | refine QW.block_xn rfl ?_ | refine QW.block_r ?_))
  (repeat (first | refine CW.seq ?_ | refine QW.then_n ?_ | refine CW.block ?_ | refine CW.ret ?_ | refine CW.skip ?_ | refine CW.exit ?_ | refine QW.then_x ?_ | refine QW.then_r ?_ | refine QW.block_n ?_ | refine QW.block_xe ?_ | refine QW.block_xn rfl ?_ | refine QW.block_r ?_))
  refine CW.region ?_
  refine OW.rv (RV.assign rfl) rfl ?_
  refine OW.nil ?_
  (repeat (first | refine CW.seq ?_ | refine QW.then_n ?_ | refine CW.block ?_ | refine CW.ret ?_ | refine CW.skip ?_ | refine CW.exit ?_ | refine QW.then_x ?_ | refine QW.then_r ?_ | refine QW.block_n ?_ | refine QW.block_xe ?_ | refine QW.block_xn rfl ?_ | refine QW.block_r ?_))
  refine CW.loop (σ := Nat) (fun j => j ≤ 2048 ∧ ∀ k, k < j → hasB a k = true → hasB b k = true) (fun j => [(2, ptr (some b2) 0), (3, ptr (some b3) 0), (5, .int .i64 (j : Int))])
    (fun j => (some b3, blk (u8s b) 24) :: (some b2, blk (u8s a) 24) :: M) (fun j => 2048 - j) 0 ⟨by omega, by intro k hk; omega⟩ ⟨rfl, rfl, rfl, trivial⟩ (fun _ m => m) ?_
  rintro j ⟨hj, hall⟩
  (repeat (first | refine CW.seq ?_ | refine QW.then_n ?_ | refine CW.block ?_ | refine CW.ret ?_ | refine CW.skip ?_ | refine CW.exit ?_ | refine QW.then_x ?_ | refine QW.then_r ?_ | refine QW.block_n ?_ | refine QW.block_xe ?_ | refine QW.block_xn rfl ?_ | refine QW.block_r ?_))
  refine CW.region ?_
  refine OW.rv (RV.move rfl) rfl ?_
  refine OW.rv (RV.lss rfl rfl) rfl ?_
  refine OW.nil ?_
  (repeat (first | refine CW.seq ?_ | refine QW.then_n ?_ | refine CW.block ?_ | refine CW.ret ?_ | refine CW.skip ?_ | refine CW.exit ?_ | refine QW.then_x ?_ | refine QW.then_r ?_ | refine QW.block_n ?_ | refine QW.block_xe ?_ | refine QW.block_xn rfl ?_ | refine QW.block_r ?_))
  (first | refine CW.cond_t rfl ?_ | refine CW.cond_f rfl ?_ | refine CW.cond_p rfl (fun hjlt => ?_) (fun hjlt => ?_) | refine CW.cond_np rfl (fun hjlt => ?_) (fun hjlt => ?_) | refine CW.cond rfl (fun hjlt => ?_) (fun hjlt => ?_))
  · have hj2 : j < 2048 := by omega
    have next : (hasB a j = true → hasB b j = true) → ∀ k, k < j + 1 → hasB a k = true → hasB b k = true := fun h k hk => by
      rcases Nat.lt_or_ge k j with h1 | h1
      · exact hall k h1
      · obtain rfl : k = j := by omega
        exact h
    cases h1 : hasB a j
    · (repeat (first | refine CW.seq ?_ | refine QW.then_n ?_ | refine CW.block ?_ | refine CW.ret ?_ | refine CW.skip ?_ | refine CW.exit ?_ | refine QW.then_x ?_ | refine QW.then_r ?_ | refine QW.block_n ?_ | refine QW.block_xe ?_ | refine QW.block_xn rfl ?_ | refine QW.block_r ?_))
      refine CW.region ?_
      (first | refine OW.rv (RV.loadW rfl (by (repeat (first | exact List.Mem.head _ | refine List.Mem.tail _ ?_)); done) (by first | rfl | assumption) rfl rfl rfl (by first | assumption | rfl | exact (u8s_length _).trans (by assumption) | exact (u64s_length _).trans (by assumption) | exact (u32s_length _).trans (by assumption) | (simp; done) | (simp [*]; done) | (simp [*]; rfl))) rfl ?_ | refine OW.rv (RV.loadAo rfl (by (repeat (first | exact List.Mem.head _ | refine List.Mem.tail _ ?_)); done) (by first | rfl | assumption) rfl rfl rfl (by assumption) (by first | assumption | rfl | exact (u8s_length _).trans (by assumption) | exact (u64s_length _).trans (by assumption) | exact (u32s_length _).trans (by assumption) | (simp; done) | (simp [*]; done) | (simp [*]; rfl))) rfl ?_ | refine OW.rv (RV.loadAs rfl rfl rfl rfl (by (repeat (first | assumption | refine Mem.Says.cons ?_)); done) (by first | assumption | rfl | exact (u8s_length _).trans (by assumption) | exact (u64s_length _).trans (by assumption) | exact (u32s_length _).trans (by assumption) | (simp; done) | (simp [*]; done) | (simp [*]; rfl))) rfl ?_)
      refine OW.rv (RV.move rfl) rfl ?_
      refine OW.call Try.call20 rfl (bit_is w0 _ _ ha j hj2 h1) rfl (fun _ _ => ?_)
      refine OW.rv (RV.move rfl) rfl ?_
      (first | (refine OW.want rfl ?_; (first | refine OW.rv (RV.loadW rfl (by (repeat (first | exact List.Mem.head _ | refine List.Mem.tail _ ?_)); done) (by first | rfl | assumption) rfl rfl rfl (by first | assumption | rfl | exact (u8s_length _).trans (by assumption) | exact (u64s_length _).trans (by assumption) | exact (u32s_length _).trans (by assumption) | (simp; done) | (simp [*]; done) | (simp [*]; rfl))) rfl ?_ | refine OW.rv (RV.loadAo rfl (by (repeat (first | exact List.Mem.head _ | refine List.Mem.tail _ ?_)); done) (by first | rfl | assumption) rfl rfl rfl (by assumption) (by first | assumption | rfl | exact (u8s_length _).trans (by assumption) | exact (u64s_length _).trans (by assumption) | exact (u32s_length _).trans (by assumption) | (simp; done) | (simp [*]; done) | (simp [*]; rfl))) rfl ?_ | refine OW.rv (RV.loadAs rfl rfl rfl rfl (by (repeat (first | assumption | refine Mem.Says.cons ?_)); done) (by first | assumption | rfl | exact (u8s_length _).trans (by assumption) | exact (u64s_length _).trans (by assumption) | exact (u32s_length _).trans (by assumption) | (simp; done) | (simp [*]; done) | (simp [*]; rfl))) rfl ?_)) | refine OW.skip rfl rfl rfl ?_)
      (first | (refine OW.want rfl ?_; refine OW.rv (RV.move rfl) rfl ?_) | refine OW.skip rfl rfl rfl ?_)
      (first | (refine OW.want rfl ?_; refine OW.call Try.call20 rfl (bit_is w0 _ _ hb j hj2 rfl) rfl (fun _ _ => ?_)) | refine OW.skip rfl rfl rfl ?_)
      (first | (refine OW.want rfl ?_; refine OW.rv (RV.not rfl) rfl ?_) | refine OW.skip rfl rfl rfl ?_)
      (first | refine OW.rv (RV.pick_t rfl rfl rfl) rfl ?_ | refine OW.rv (RV.pick_f rfl rfl rfl) rfl ?_ | refine OW.rv (RV.pick rfl rfl rfl) rfl ?_)
      refine OW.nil ?_
      (repeat (first | refine CW.seq ?_ | refine QW.then_n ?_ | refine CW.block ?_ | refine CW.ret ?_ | refine CW.skip ?_ | refine CW.exit ?_ | refine QW.then_x ?_ | refine QW.then_r ?_ | refine QW.block_n ?_ | refine QW.block_xe ?_ | refine QW.block_xn rfl ?_ | refine QW.block_r ?_))
      (first | refine CW.cond_t rfl ?_ | refine CW.cond_f rfl ?_ | refine CW.cond_p rfl (fun hh => ?_) (fun hh => ?_) | refine CW.cond_np rfl (fun hh => ?_) (fun hh => ?_) | refine CW.cond rfl (fun hh => ?_) (fun hh => ?_))
      (repeat (first | refine CW.seq ?_ | refine QW.then_n ?_ | refine CW.block ?_ | refine CW.ret ?_ | refine CW.skip ?_ | refine CW.exit ?_ | refine QW.then_x ?_ | refine QW.then_r ?_ | refine QW.block_n ?_ | refine QW.block_xe ?_ | refine QW.block_xn rfl ?_ | refine QW.block_r ?_))
      (repeat (first | refine CW.seq ?_ | refine QW.then_n ?_ | refine CW.block ?_ | refine CW.ret ?_ | refine CW.skip ?_ | refine CW.exit ?_ | refine QW.then_x ?_ | refine QW.then_r ?_ | refine QW.block_n ?_ | refine QW.block_xe ?_ | refine QW.block_xn rfl ?_ | refine QW.block_r ?_))
      refine CW.region ?_
      refine OW.rv (RV.move rfl) rfl ?_
      refine OW.rv (RV.add rfl rfl (by omega)) rfl ?_
      refine OW.rv (RV.assign rfl) rfl ?_
      refine OW.nil ?_
      (repeat (first | refine CW.seq ?_ | refine QW.then_n ?_ | refine CW.block ?_ | refine CW.ret ?_ | refine CW.skip ?_ | refine CW.exit ?_ | refine QW.then_x ?_ | refine QW.then_r ?_ | refine QW.block_n ?_ | refine QW.block_xe ?_ | refine QW.block_xn rfl ?_ | refine QW.block_r ?_))
      exact QW.again (j + 1) ⟨by omega, next (by rw [h1]; intro h; cases h)⟩ (by omega) ⟨rfl, rfl, rfl, trivial⟩ (fun _ m => m)
    · cases h2 : hasB b j
      · (repeat (first | refine CW.seq ?_ | refine QW.then_n ?_ | refine CW.block ?_ | refine CW.ret ?_ | refine CW.skip ?_ | refine CW.exit ?_ | refine QW.then_x ?_ | refine QW.then_r ?_ | refine QW.block_n ?_ | refine QW.block_xe ?_ | refine QW.block_xn rfl ?_ | refine QW.block_r ?_))
        refine CW.region ?_
        (first | refine OW.rv (RV.loadW rfl (by (repeat (first | exact List.Mem.head _ | refine List.Mem.tail _ ?_)); done) (by first | rfl | assumption) rfl rfl rfl (by first | assumption | rfl | exact (u8s_length _).trans (by assumption) | exact (u64s_length _).trans (by assumption) | exact (u32s_length _).trans (by assumption) | (simp; done) | (simp [*]; done) | (simp [*]; rfl))) rfl ?_ | refine OW.rv (RV.loadAo rfl (by (repeat (first | exact List.Mem.head _ | refine List.Mem.tail _ ?_)); done) (by first | rfl | assumption) rfl rfl rfl (by assumption) (by first | assumption | rfl | exact (u8s_length _).trans (by assumption) | exact (u64s_length _).trans (by assumption) | exact (u32s_length _).trans (by assumption) | (simp; done) | (simp [*]; done) | (simp [*]; rfl))) rfl ?_ | refine OW.rv (RV.loadAs rfl rfl rfl rfl (by (repeat (first | assumption | refine Mem.Says.cons ?_)); done) (by first | assumption | rfl | exact (u8s_length _).trans (by assumption) | exact (u64s_length _).trans (by assumption) | exact (u32s_length _).trans (by assumption) | (simp; done) | (simp [*]; done) | (simp [*]; rfl))) rfl ?_)
        refine OW.rv (RV.move rfl) rfl ?_
        refine OW.call Try.call20 rfl (bit_is w0 _ _ ha j hj2 h1) rfl (fun _ _ => ?_)
        refine OW.rv (RV.move rfl) rfl ?_
        (first | (refine OW.want rfl ?_; (first | refine OW.rv (RV.loadW rfl (by (repeat (first | exact List.Mem.head _ | refine List.Mem.tail _ ?_)); done) (by first | rfl | assumption) rfl rfl rfl (by first | assumption | rfl | exact (u8s_length _).trans (by assumption) | exact (u64s_length _).trans (by assumption) | exact (u32s_length _).trans (by assumption) | (simp; done) | (simp [*]; done) | (simp [*]; rfl))) rfl ?_ | refine OW.rv (RV.loadAo rfl (by (repeat (first | exact List.Mem.head _ | refine List.Mem.tail _ ?_)); done) (by first | rfl | assumption) rfl rfl rfl (by assumption) (by first | assumption | rfl | exact (u8s_length _).trans (by assumption) | exact (u64s_length _).trans (by assumption) | exact (u32s_length _).trans (by assumption) | (simp; done) | (simp [*]; done) | (simp [*]; rfl))) rfl ?_ | refine OW.rv (RV.loadAs rfl rfl rfl rfl (by (repeat (first | assumption | refine Mem.Says.cons ?_)); done) (by first | assumption | rfl | exact (u8s_length _).trans (by assumption) | exact (u64s_length _).trans (by assumption) | exact (u32s_length _).trans (by assumption) | (simp; done) | (simp [*]; done) | (simp [*]; rfl))) rfl ?_)) | refine OW.skip rfl rfl rfl ?_)
        (first | (refine OW.want rfl ?_; refine OW.rv (RV.move rfl) rfl ?_) | refine OW.skip rfl rfl rfl ?_)
        (first | (refine OW.want rfl ?_; refine OW.call Try.call20 rfl (bit_is w0 _ _ hb j hj2 h2) rfl (fun _ _ => ?_)) | refine OW.skip rfl rfl rfl ?_)
        (first | (refine OW.want rfl ?_; refine OW.rv (RV.not rfl) rfl ?_) | refine OW.skip rfl rfl rfl ?_)
        (first | refine OW.rv (RV.pick_t rfl rfl rfl) rfl ?_ | refine OW.rv (RV.pick_f rfl rfl rfl) rfl ?_ | refine OW.rv (RV.pick rfl rfl rfl) rfl ?_)
        refine OW.nil ?_
        (repeat (first | refine CW.seq ?_ | refine QW.then_n ?_ | refine CW.block ?_ | refine CW.ret ?_ | refine CW.skip ?_ | refine CW.exit ?_ | refine QW.then_x ?_ | refine QW.then_r ?_ | refine QW.block_n ?_ | refine QW.block_xe ?_ | refine QW.block_xn rfl ?_ | refine QW.block_r ?_))
        (first | refine CW.cond_t rfl ?_ | refine CW.cond_f rfl ?_ | refine CW.cond_p rfl (fun hh => ?_) (fun hh => ?_) | refine CW.cond_np rfl (fun hh => ?_) (fun hh => ?_) | refine CW.cond rfl (fun hh => ?_) (fun hh => ?_))
        (repeat (first | refine CW.seq ?_ | refine QW.then_n ?_ | refine CW.block ?_ | refine CW.ret ?_ | refine CW.skip ?_ | refine CW.exit ?_ | refine QW.then_x ?_ | refine QW.then_r ?_ | refine QW.block_n ?_ | refine QW.block_xe ?_ | refine QW.block_xn rfl ?_ | refine QW.block_r ?_))
        refine CW.region ?_
        refine OW.rv (RV.assign rfl) rfl ?_
        refine OW.nil ?_
        (repeat (first | refine CW.seq ?_ | refine QW.then_n ?_ | refine CW.block ?_ | refine CW.ret ?_ | refine CW.skip ?_ | refine CW.exit ?_ | refine QW.then_x ?_ | refine QW.then_r ?_ | refine QW.block_n ?_ | refine QW.block_xe ?_ | refine QW.block_xn rfl ?_ | refine QW.block_r ?_))
        refine QW.ret1 rfl () trivial ?_ (fun _ m => m.tail.tail)
        have : v = false := by
          rw [← hv]
          refine decide_eq_false (fun e => ?_)
          have := (within_iff ha hb).2 e j hj2 h1
          rw [h2] at this; cases this
        rw [this]; rfl
      · (repeat (first | refine CW.seq ?_ | refine QW.then_n ?_ | refine CW.block ?_ | refine CW.ret ?_ | refine CW.skip ?_ | refine CW.exit ?_ | refine QW.then_x ?_ | refine QW.then_r ?_ | refine QW.block_n ?_ | refine QW.block_xe ?_ | refine QW.block_xn rfl ?_ | refine QW.block_r ?_))
        refine CW.region ?_
        (first | refine OW.rv (RV.loadW rfl (by (repeat (first | exact List.Mem.head _ | refine List.Mem.tail _ ?_)); done) (by first | rfl | assumption) rfl rfl rfl (by first | assumption | rfl | exact (u8s_length _).trans (by assumption) | exact (u64s_length _).trans (by assumption) | exact (u32s_length _).trans (by assumption) | (simp; done) | (simp [*]; done) | (simp [*]; rfl))) rfl ?_ | refine OW.rv (RV.loadAo rfl (by (repeat (first | exact List.Mem.head _ | refine List.Mem.tail _ ?_)); done) (by first | rfl | assumption) rfl rfl rfl (by assumption) (by first | assumption | rfl | exact (u8s_length _).trans (by assumption) | exact (u64s_length _).trans (by assumption) | exact (u32s_length _).trans (by assumption) | (simp; done) | (simp [*]; done) | (simp [*]; rfl))) rfl ?_ | refine OW.rv (RV.loadAs rfl rfl rfl rfl (by (repeat (first | assumption | refine Mem.Says.cons ?_)); done) (by first | assumption | rfl | exact (u8s_length _).trans (by assumption) | exact (u64s_length _).trans (by assumption) | exact (u32s_length _).trans (by assumption) | (simp; done) | (simp [*]; done) | (simp [*]; rfl))) rfl ?_)
        refine OW.rv (RV.move rfl) rfl ?_
        refine OW.call Try.call20 rfl (bit_is w0 _ _ ha j hj2 h1) rfl (fun _ _ => ?_)
        refine OW.rv (RV.move rfl) rfl ?_
        (first | (refine OW.want rfl ?_; (first | refine OW.rv (RV.loadW rfl (by (repeat (first | exact List.Mem.head _ | refine List.Mem.tail _ ?_)); done) (by first | rfl | assumption) rfl rfl rfl (by first | assumption | rfl | exact (u8s_length _).trans (by assumption) | exact (u64s_length _).trans (by assumption) | exact (u32s_length _).trans (by assumption) | (simp; done) | (simp [*]; done) | (simp [*]; rfl))) rfl ?_ | refine OW.rv (RV.loadAo rfl (by (repeat (first | exact List.Mem.head _ | refine List.Mem.tail _ ?_)); done) (by first | rfl | assumption) rfl rfl rfl (by assumption) (by first | assumption | rfl | exact (u8s_length _).trans (by assumption) | exact (u64s_length _).trans (by assumption) | exact (u32s_length _).trans (by assumption) | (simp; done) | (simp [*]; done) | (simp [*]; rfl))) rfl ?_ | refine OW.rv (RV.loadAs rfl rfl rfl rfl (by (repeat (first | assumption | refine Mem.Says.cons ?_)); done) (by first | assumption | rfl | exact (u8s_length _).trans (by assumption) | exact (u64s_length _).trans (by assumption) | exact (u32s_length _).trans (by assumption) | (simp; done) | (simp [*]; done) | (simp [*]; rfl))) rfl ?_)) | refine OW.skip rfl rfl rfl ?_)
        (first | (refine OW.want rfl ?_; refine OW.rv (RV.move rfl) rfl ?_) | refine OW.skip rfl rfl rfl ?_)
        (first | (refine OW.want rfl ?_; refine OW.call Try.call20 rfl (bit_is w0 _ _ hb j hj2 h2) rfl (fun _ _ => ?_)) | refine OW.skip rfl rfl rfl ?_)
        (first | (refine OW.want rfl ?_; refine OW.rv (RV.not rfl) rfl ?_) | refine OW.skip rfl rfl rfl ?_)
        (first | refine OW.rv (RV.pick_t rfl rfl rfl) rfl ?_ | refine OW.rv (RV.pick_f rfl rfl rfl) rfl ?_ | refine OW.rv (RV.pick rfl rfl rfl) rfl ?_)
        refine OW.nil ?_
        (repeat (first | refine CW.seq ?_ | refine QW.then_n ?_ | refine CW.block ?_ | refine CW.ret ?_ | refine CW.skip ?_ | refine CW.exit ?_ | refine QW.then_x ?_ | refine QW.then_r ?_ | refine QW.block_n ?_ | refine QW.block_xe ?_ | refine QW.block_xn rfl ?_ | refine QW.block_r ?_))
        (first | refine CW.cond_t rfl ?_ | refine CW.cond_f rfl ?_ | refine CW.cond_p rfl (fun hh => ?_) (fun hh => ?_) | refine CW.cond_np rfl (fun hh => ?_) (fun hh => ?_) | refine CW.cond rfl (fun hh => ?_) (fun hh => ?_))
        (repeat (first | refine CW.seq ?_ | refine QW.then_n ?_ | refine CW.block ?_ | refine CW.ret ?_ | refine CW.skip ?_ | refine CW.exit ?_ | refine QW.then_x ?_ | refine QW.then_r ?_ | refine QW.block_n ?_ | refine QW.block_xe ?_ | refine QW.block_xn rfl ?_ | refine QW.block_r ?_))
        (repeat (first | refine CW.seq ?_ | refine QW.then_n ?_ | refine CW.block ?_ | refine CW.ret ?_ | refine CW.skip ?_ | refine CW.exit ?_ | refine QW.then_x ?_ | refine QW.then_r ?_ | refine QW.block_n ?_ | refine QW.block_xe ?_ | refine QW.block_xn rfl ?_ | refine QW.block_r ?_))
        refine CW.region ?_
        refine OW.rv (RV.move rfl) rfl ?_
        refine OW.rv (RV.add rfl rfl (by omega)) rfl ?_
        refine OW.rv (RV.assign rfl) rfl ?_
        refine OW.nil ?_
        (repeat (first | refine CW.seq ?_ | refine QW.then_n ?_ | refine CW.block ?_ | refine CW.ret ?_ | refine CW.skip ?_ | refine CW.exit ?_ | refine QW.then_x ?_ | refine QW.then_r ?_ | refine QW.block_n ?_ | refine QW.block_xe ?_ | refine QW.block_xn rfl ?_ | refine QW.block_r ?_))
        exact QW.again (j + 1) ⟨by omega, next (by rw [h2]; intro _; rfl)⟩ (by omega) ⟨rfl, rfl, rfl, trivial⟩ (fun _ m => m)
  · have hj2 : j = 2048 := by omega
    subst hj2
    (repeat (first | refine CW.seq ?_ | refine QW.then_n ?_ | refine CW.block ?_ | refine CW.ret ?_ | refine CW.skip ?_ | refine CW.exit ?_ | refine QW.then_x ?_ | refine QW.then_r ?_ | refine QW.block_n ?_ | refine QW.block_xe ?_ | refine QW.block_xn rfl ?_ | refine QW.block_r ?_))
    refine CW.region ?_
    refine OW.rv (RV.assign rfl) rfl ?_
    refine OW.nil ?_
    (repeat (first | refine CW.seq ?_ | refine QW.then_n ?_ | refine CW.block ?_ | refine CW.ret ?_ | refine CW.skip ?_ | refine CW.exit ?_ | refine QW.then_x ?_ | refine QW.then_r ?_ | refine QW.block_n ?_ | refine QW.block_xe ?_ | refine QW.block_xn rfl ?_ | refine QW.block_r ?_))
    refine QW.ret1 rfl () trivial ?_ (fun _ m => m.tail.tail)
    have : v = true := by
      rw [← hv]; exact decide_eq_true ((within_iff ha hb).1 hall)
    rw [this]; rfl

theorem pop_does (w0 : World) (M : List Ent) (x : BitVec 8) : Does Try.prog 21 [U8 x] w0 M (τ := Unit) (fun _ => True) (fun _ => .int .i64 (popB x : Int)) (fun q => M) := by
  refine Does.enter Try.func21 rfl Try.ntmps21 rfl ?_
  (repeat (first | refine CW.seq ?_ | refine QW.then_n ?_ | refine CW.block ?_ | refine CW.ret ?_ | refine CW.skip ?_ | refine CW.exit ?_ | refine QW.then_x ?_ | refine QW.then_r ?_ | refine QW.block_n ?_ | refine QW.block_xe ?_ | refine QW.block_xn rfl ?_ | refine QW.block_r ?_))
  refine CW.region ?_
  refine OW.rv (RV.assign rfl) rfl ?_
  refine OW.nil ?_
  (repeat (first | refine CW.seq ?_ | refine QW.then_n ?_ | refine CW.block ?_ | refine CW.ret ?_ | refine CW.skip ?_ | refine CW.exit ?_ | refine QW.then_x ?_ | refine QW.then_r ?_ | refine QW.block_n ?_ | refine QW.block_xe ?_ | refine QW.block_xn rfl ?_ | refine QW.block_r ?_))
  have hs : (Option.map (fun c => c.toNat) (popTable[x.toNat]?)) = some (BitVec.ofNat 8 (popB x)).toNat := pop_table x
  (repeat (first | refine CW.seq ?_ | refine QW.then_n ?_ | refine CW.block ?_ | refine CW.ret ?_ | refine CW.skip ?_ | refine CW.exit ?_ | refine QW.then_x ?_ | refine QW.then_r ?_ | refine QW.block_n ?_ | refine QW.block_xe ?_ | refine QW.block_xn rfl ?_ | refine QW.block_r ?_))
  refine CW.region ?_
  refine OW.rv (RV.move rfl) rfl ?_
  refine OW.rv (RV.indexStr _ rfl rfl rfl (by assumption)) rfl ?_
  refine OW.rv (RV.conv8_i rfl (by first | rfl | exact lit8 _ rfl) rfl rfl) rfl ?_
  refine OW.rv (RV.assign rfl) rfl ?_
  refine OW.nil ?_
  (repeat (first | refine CW.seq ?_ | refine QW.then_n ?_ | refine CW.block ?_ | refine CW.ret ?_ | refine CW.skip ?_ | refine CW.exit ?_ | refine QW.then_x ?_ | refine QW.then_r ?_ | refine QW.block_n ?_ | refine QW.block_xe ?_ | refine QW.block_xn rfl ?_ | refine QW.block_r ?_))
  exact QW.ret1 rfl () trivial (by rw [pop_back]; rfl) (fun _ m => m)
end Go.Fw.Try
