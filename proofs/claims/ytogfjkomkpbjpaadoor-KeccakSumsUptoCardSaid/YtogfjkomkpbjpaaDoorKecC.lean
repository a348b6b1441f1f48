/- Part of a proof: rules that its law uses. -/
import Derived.Test.YtogfjkomkpbjpaaDoorKecB
namespace Go.Fw.Tryd
open Go Go.Proofs
set_option maxRecDepth 100000
set_option linter.unusedVariables false
attribute [local irreducible] permTo roundL movedL chiL sumTo
theorem at_does (w0 : World) (M : List Ent) (a b : Int) (ha : 0 ≤ a ∧ a < 100) (hb : 0 ≤ b ∧ b < 100) : Does Tryd.prog 53 [.int .i64 a, .int .i64 b] w0 M (τ := Unit) (fun _ => True) (fun _ => .int .i64 (a % 5 + 5 * (b % 5))) (fun _ => M) := by
  refine Does.enter Tryd.func53 rfl Tryd.ntmps53 rfl ?_
  (repeat (first | refine CW.seq ?_ | refine QW.then_n ?_ | refine CW.block ?_ | refine CW.ret ?_ | refine CW.skip ?_ | refine CW.exit ?_ | refine QW.then_x ?_ | refine QW.then_r ?_ | refine QW.block_n ?_ | refine QW.block_xe ?_ | refine QW.block_xn rfl ?_ | refine QW.block_r ?_))
  refine CW.region ?_
  refine OW.rv (RV.assign rfl) rfl ?_
  refine OW.nil ?_
  (repeat (first | refine CW.seq ?_ | refine QW.then_n ?_ | refine CW.block ?_ | refine CW.ret ?_ | refine CW.skip ?_ | refine CW.exit ?_ | refine QW.then_x ?_ | refine QW.then_r ?_ | refine QW.block_n ?_ | refine QW.block_xe ?_ | refine QW.block_xn rfl ?_ | refine QW.block_r ?_))
  (repeat (first | refine CW.seq ?_ | refine QW.then_n ?_ | refine CW.block ?_ | refine CW.ret ?_ | refine CW.skip ?_ | refine CW.exit ?_ | refine QW.then_x ?_ | refine QW.then_r ?_ | refine QW.block_n ?_ | refine QW.block_xe ?_ | refine QW.block_xn rfl ?_ | refine QW.block_r ?_))
  refine CW.region ?_
  refine OW.rv (RV.move rfl) rfl ?_
  (first | refine OW.rv (RV.rem rfl rfl (by omega) (by omega)) rfl ?_ | refine OW.rv (RV.trem rfl rfl (by omega)) rfl ?_)
  refine OW.rv (RV.move rfl) rfl ?_
  (first | refine OW.rv (RV.rem rfl rfl (by omega) (by omega)) rfl ?_ | refine OW.rv (RV.trem rfl rfl (by omega)) rfl ?_)
  refine OW.rv (RV.mul rfl rfl (by omega)) rfl ?_
  refine OW.rv (RV.add rfl rfl (by omega)) rfl ?_
  refine OW.rv (RV.assign rfl) rfl ?_
  refine OW.nil ?_
  (repeat (first | refine CW.seq ?_ | refine QW.then_n ?_ | refine CW.block ?_ | refine CW.ret ?_ | refine CW.skip ?_ | refine CW.exit ?_ | refine QW.then_x ?_ | refine QW.then_r ?_ | refine QW.block_n ?_ | refine QW.block_xe ?_ | refine QW.block_xn rfl ?_ | refine QW.block_r ?_))
  exact QW.ret1 rfl () trivial rfl (fun _ m => m)
theorem at_is (w0 : World) (M : List Ent) (a b : Int) (ha : 0 ≤ a ∧ a < 100) (hb : 0 ≤ b ∧ b < 100) {v : Nat} (hv : a % 5 + 5 * (b % 5) = v) : Does Tryd.prog 53 [.int .i64 a, .int .i64 b] w0 M (τ := Unit) (fun _ => True) (fun _ => .int .i64 (v : Int)) (fun _ => M) := hv ▸ at_does w0 M a b ha hb
theorem Rot_does (w0 : World) (M : List Ent) (x : BitVec 64) (k : Int) (h0 : 0 ≤ k) (h1 : k < 64) : Does Tryd.prog 54 [U64 x, .int .i64 k] w0 M (τ := Unit) (fun _ => True) (fun _ => U64 (rotl x k.toNat)) (fun _ => M) := by
  refine Does.enter Tryd.func54 rfl Tryd.ntmps54 rfl ?_
  (repeat (first | refine CW.seq ?_ | refine QW.then_n ?_ | refine CW.block ?_ | refine CW.ret ?_ | refine CW.skip ?_ | refine CW.exit ?_ | refine QW.then_x ?_ | refine QW.then_r ?_ | refine QW.block_n ?_ | refine QW.block_xe ?_ | refine QW.block_xn rfl ?_ | refine QW.block_r ?_))
  refine CW.region ?_
  refine OW.rv (RV.assign rfl) rfl ?_
  refine OW.nil ?_
  (repeat (first | refine CW.seq ?_ | refine QW.then_n ?_ | refine CW.block ?_ | refine CW.ret ?_ | refine CW.skip ?_ | refine CW.exit ?_ | refine QW.then_x ?_ | refine QW.then_r ?_ | refine QW.block_n ?_ | refine QW.block_xe ?_ | refine QW.block_xn rfl ?_ | refine QW.block_r ?_))
  (repeat (first | refine CW.seq ?_ | refine QW.then_n ?_ | refine CW.block ?_ | refine CW.ret ?_ | refine CW.skip ?_ | refine CW.exit ?_ | refine QW.then_x ?_ | refine QW.then_r ?_ | refine QW.block_n ?_ | refine QW.block_xe ?_ | refine QW.block_xn rfl ?_ | refine QW.block_r ?_))
  refine CW.region ?_
  refine OW.rv (RV.move rfl) rfl ?_
  refine OW.rv (RV.eql rfl rfl) rfl ?_
  refine OW.nil ?_
  (repeat (first | refine CW.seq ?_ | refine QW.then_n ?_ | refine CW.block ?_ | refine CW.ret ?_ | refine CW.skip ?_ | refine CW.exit ?_ | refine QW.then_x ?_ | refine QW.then_r ?_ | refine QW.block_n ?_ | refine QW.block_xe ?_ | refine QW.block_xn rfl ?_ | refine QW.block_r ?_))
  (first | refine CW.cond_t rfl ?_ | refine CW.cond_f rfl ?_ | refine CW.cond_p rfl (fun h => ?_) (fun h => ?_) | refine CW.cond_np rfl (fun h => ?_) (fun h => ?_) | refine CW.cond rfl (fun h => ?_) (fun h => ?_))
  · (repeat (first | refine CW.seq ?_ | refine QW.then_n ?_ | refine CW.block ?_ | refine CW.ret ?_ | refine CW.skip ?_ | refine CW.exit ?_ | refine QW.then_x ?_ | refine QW.then_r ?_ | refine QW.block_n ?_ | refine QW.block_xe ?_ | refine QW.block_xn rfl ?_ | refine QW.block_r ?_))
    refine CW.region ?_
    refine OW.rv (RV.move rfl) rfl ?_
    refine OW.rv (RV.assign rfl) rfl ?_
    refine OW.nil ?_
    (repeat (first | refine CW.seq ?_ | refine QW.then_n ?_ | refine CW.block ?_ | refine CW.ret ?_ | refine CW.skip ?_ | refine CW.exit ?_ | refine QW.then_x ?_ | refine QW.then_r ?_ | refine QW.block_n ?_ | refine QW.block_xe ?_ | refine QW.block_xn rfl ?_ | refine QW.block_r ?_))
    refine QW.ret1 rfl () trivial ?_ (fun _ m => m)
    have h' : k = 0 := h
    subst h'
    have e : rotl x (0 : Int).toNat = x := by
      have hs : x >>> 64 = 0#64 := by
        apply BitVec.eq_of_getLsbD_eq
        intro i hi
        simp
      unfold rotl
      show x <<< 0 ||| x >>> (64 - 0) = x
      rw [show 64 - 0 = 64 from rfl, hs, BitVec.shiftLeft_zero, BitVec.or_zero]
    rw [e]; rfl
  · (repeat (first | refine CW.seq ?_ | refine QW.then_n ?_ | refine CW.block ?_ | refine CW.ret ?_ | refine CW.skip ?_ | refine CW.exit ?_ | refine QW.then_x ?_ | refine QW.then_r ?_ | refine QW.block_n ?_ | refine QW.block_xe ?_ | refine QW.block_xn rfl ?_ | refine QW.block_r ?_))
    refine CW.region ?_
    refine OW.rv (RV.move rfl) rfl ?_
    refine OW.rv (RV.move rfl) rfl ?_
    refine OW.rv (RV.conv_i64 rfl rfl rfl) rfl ?_
    (first | refine OW.rv (RV.shl64 rfl (by first | rfl | exact lit64 _ rfl) rfl rfl) rfl ?_ | refine OW.rv (RV.shl64_i rfl (by first | rfl | exact lit64 _ rfl) rfl (by omega)) rfl ?_)
    refine OW.rv (RV.move rfl) rfl ?_
    refine OW.rv (RV.move rfl) rfl ?_
    refine OW.rv (RV.sub rfl rfl (by omega)) rfl ?_
    refine OW.rv (RV.conv_i64 rfl rfl rfl) rfl ?_
    (first | refine OW.rv (RV.shr64 rfl (by first | rfl | exact lit64 _ rfl) rfl rfl) rfl ?_ | refine OW.rv (RV.shr64_i rfl (by first | rfl | exact lit64 _ rfl) rfl (by omega)) rfl ?_)
    refine OW.rv (RV.or64 rfl (by first | rfl | exact lit64 _ rfl) rfl (by first | rfl | exact lit64 _ rfl)) rfl ?_
    refine OW.rv (RV.assign rfl) rfl ?_
    refine OW.nil ?_
    (repeat (first | refine CW.seq ?_ | refine QW.then_n ?_ | refine CW.block ?_ | refine CW.ret ?_ | refine CW.skip ?_ | refine CW.exit ?_ | refine QW.then_x ?_ | refine QW.then_r ?_ | refine QW.block_n ?_ | refine QW.block_xe ?_ | refine QW.block_xn rfl ?_ | refine QW.block_r ?_))
    refine QW.ret1 rfl () trivial ?_ (fun _ m => m)
    have e1 : (BitVec.ofInt 64 k).toNat = k.toNat := by rw [BitVec.toNat_ofInt]; omega
    have e2 : (BitVec.ofInt 64 (64 - k)).toNat = 64 - k.toNat := by rw [BitVec.toNat_ofInt]; omega
    have e : x <<< (BitVec.ofInt 64 k).toNat ||| x >>> (BitVec.ofInt 64 (64 - k)).toNat = rotl x k.toNat := by rw [e1, e2]; rfl
    rw [← e]; rfl
theorem columns_does (w0 : World) (M : List Ent) (a : List (BitVec 64)) (ha : a.length = 25) : Does Tryd.prog 35 [.agg (u64s a).toArray] w0 M (τ := Unit) (fun _ => True) (fun _ => .agg (u64s ((List.range 25).map (thetaE a))).toArray) (fun _ => M) := by
  have hz25 : (List.replicate 25 0#64).length = 25 := List.length_replicate ..
  refine Does.enter Tryd.func35 rfl Tryd.ntmps35 rfl ?_
  (repeat (first | refine CW.seq ?_ | refine QW.then_n ?_ | refine CW.block ?_ | refine CW.ret ?_ | refine CW.skip ?_ | refine CW.exit ?_ | refine QW.then_x ?_ | refine QW.then_r ?_ | refine QW.block_n ?_ | refine QW.block_xe ?_ | refine QW.block_xn rfl ?_ | refine QW.block_r ?_))
  refine CW.region ?_
  refine OW.boxA rfl rfl (fun b1 => ?_)
  refine OW.alloc (l := u64s (List.replicate 25 0#64)) rfl (by rw [← u64s_rep]; rfl) rfl (fun b2 => ?_)
  refine OW.nil ?_
  (repeat (first | refine CW.seq ?_ | refine QW.then_n ?_ | refine CW.block ?_ | refine CW.ret ?_ | refine CW.skip ?_ | refine CW.exit ?_ | refine QW.then_x ?_ | refine QW.then_r ?_ | refine QW.block_n ?_ | refine QW.block_xe ?_ | refine QW.block_xn rfl ?_ | refine QW.block_r ?_))
  (repeat (first | refine CW.seq ?_ | refine QW.then_n ?_ | refine CW.block ?_ | refine CW.ret ?_ | refine CW.skip ?_ | refine CW.exit ?_ | refine QW.then_x ?_ | refine QW.then_r ?_ | refine QW.block_n ?_ | refine QW.block_xe ?_ | refine QW.block_xn rfl ?_ | refine QW.block_r ?_))
  refine CW.region ?_
  refine OW.alloc (l := u64s (List.replicate 5 0#64)) rfl (by rw [← u64s_rep]; rfl) rfl (fun b3 => ?_)
  refine OW.nil ?_
  (repeat (first | refine CW.seq ?_ | refine QW.then_n ?_ | refine CW.block ?_ | refine CW.ret ?_ | refine CW.skip ?_ | refine CW.exit ?_ | refine QW.then_x ?_ | refine QW.then_r ?_ | refine QW.block_n ?_ | refine QW.block_xe ?_ | refine QW.block_xn rfl ?_ | refine QW.block_r ?_))
  (repeat (first | refine CW.seq ?_ | refine QW.then_n ?_ | refine CW.block ?_ | refine CW.ret ?_ | refine CW.skip ?_ | refine CW.exit ?_ | refine QW.then_x ?_ | refine QW.then_r ?_ | refine QW.block_n ?_ | refine QW.block_xe ?_ | refine QW.block_xn rfl ?_ | refine QW.block_r ?_))
  refine CW.region ?_
  refine OW.rv (RV.assign rfl) rfl ?_
  refine OW.nil ?_
  (repeat (first | refine CW.seq ?_ | refine QW.then_n ?_ | refine CW.block ?_ | refine CW.ret ?_ | refine CW.skip ?_ | refine CW.exit ?_ | refine QW.then_x ?_ | refine QW.then_r ?_ | refine QW.block_n ?_ | refine QW.block_xe ?_ | refine QW.block_xn rfl ?_ | refine QW.block_r ?_))
  refine CW.loop (σ := Nat × List (BitVec 64)) (fun s => s.1 ≤ 5 ∧ s.2.length = 5 ∧ ∀ x, x < s.1 → g64 s.2 x = colS a x) (fun s => [(1, ptr (some b1) 0), (2, ptr (some b2) 0), (3, ptr (some b3) 0), (4, .int .i64 (s.1 : Int))])
    (fun s => (some b3, blk (u64s s.2) 65) :: (some b2, blk (u64s (List.replicate 25 0#64)) 23) :: (some b1, blk (u64s a) 23) :: M) (fun s => 5 - s.1) (0, List.replicate 5 0#64) ⟨by simp, rfl, fun x hx => by omega⟩ ⟨rfl, rfl, rfl, rfl, trivial⟩ (fun _ m => m) ?_
  rintro ⟨x, c⟩ ⟨hx, hc, he⟩
  dsimp only at hx hc he ⊢
  (repeat (first | refine CW.seq ?_ | refine QW.then_n ?_ | refine CW.block ?_ | refine CW.ret ?_ | refine CW.skip ?_ | refine CW.exit ?_ | refine QW.then_x ?_ | refine QW.then_r ?_ | refine QW.block_n ?_ | refine QW.block_xe ?_ | refine QW.block_xn rfl ?_ | refine QW.block_r ?_))
  refine CW.region ?_
  refine OW.rv (RV.move rfl) rfl ?_
  refine OW.rv (RV.lss rfl rfl) rfl ?_
  refine OW.nil ?_
  (repeat (first | refine CW.seq ?_ | refine QW.then_n ?_ | refine CW.block ?_ | refine CW.ret ?_ | refine CW.skip ?_ | refine CW.exit ?_ | refine QW.then_x ?_ | refine QW.then_r ?_ | refine QW.block_n ?_ | refine QW.block_xe ?_ | refine QW.block_xn rfl ?_ | refine QW.block_r ?_))
  (first | refine CW.cond_t rfl ?_ | refine CW.cond_f rfl ?_ | refine CW.cond_p rfl (fun hlt => ?_) (fun hlt => ?_) | refine CW.cond_np rfl (fun hlt => ?_) (fun hlt => ?_) | refine CW.cond rfl (fun hlt => ?_) (fun hlt => ?_))
  · have hx2 : x < 5 := by omega
    have q : ∀ y : Nat, y < 5 → (u64s a)[0 + (x + 5 * y)]? = some (U64 (g64 a (x + 5 * y))) := fun y hy => by rw [Nat.zero_add]; exact u64s_get (by omega)
    have q0 := q 0 (by decide)
    have q1 := q 1 (by decide)
    have q2 := q 2 (by decide)
    have q3 := q 3 (by decide)
    have q4 := q 4 (by decide)
    have hl2 : 0 + x < (u64s c).length := by rw [u64s_length]; omega
    (repeat (first | refine CW.seq ?_ | refine QW.then_n ?_ | refine CW.block ?_ | refine CW.ret ?_ | refine CW.skip ?_ | refine CW.exit ?_ | refine QW.then_x ?_ | refine QW.then_r ?_ | refine QW.block_n ?_ | refine QW.block_xe ?_ | refine QW.block_xn rfl ?_ | refine QW.block_r ?_))
    refine CW.drawsT 26 mixed (by kernel_rfl) ?_
    refine TW.rv (RV.move rfl) rfl ?_
    refine TW.rv (RV.move rfl) rfl ?_
    refine TW.call _ Tryd.call53 rfl (at_is w0 _ _ _ (by omega) (by omega) (v := x + 5 * 0) (by omega)) (fun _ _ => rfl) (fun _ _ _ m => m) rfl ?_
    (first | refine TW.rv (RV.idx_a _ rfl rfl rfl rfl rfl (by omega)) rfl ?_ | refine TW.rv (RV.idx_az rfl rfl (by omega) rfl rfl (by omega)) rfl ?_)
    (first | refine TW.rv (RV.load rfl (by (repeat (first | exact List.Mem.head _ | assumption | refine List.Mem.tail _ ?_)); done) (by first | rfl | assumption) rfl rfl (by first | rfl | assumption)) rfl ?_ | refine TW.rv (RV.load_at rfl rfl rfl (by (repeat (first | assumption | refine Mem.Says.cons ?_)); done)) rfl ?_)
    refine TW.rv (RV.move rfl) rfl ?_
    refine TW.call _ Tryd.call53 rfl (at_is w0 _ _ _ (by omega) (by omega) (v := x + 5 * 1) (by omega)) (fun _ _ => rfl) (fun _ _ _ m => m) rfl ?_
    (first | refine TW.rv (RV.idx_a _ rfl rfl rfl rfl rfl (by omega)) rfl ?_ | refine TW.rv (RV.idx_az rfl rfl (by omega) rfl rfl (by omega)) rfl ?_)
    (first | refine TW.rv (RV.load rfl (by (repeat (first | exact List.Mem.head _ | assumption | refine List.Mem.tail _ ?_)); done) (by first | rfl | assumption) rfl rfl (by first | rfl | assumption)) rfl ?_ | refine TW.rv (RV.load_at rfl rfl rfl (by (repeat (first | assumption | refine Mem.Says.cons ?_)); done)) rfl ?_)
    refine TW.rv (RV.xor64 rfl (by first | rfl | exact lit64 _ rfl) rfl (by first | rfl | exact lit64 _ rfl)) rfl ?_
    refine TW.rv (RV.move rfl) rfl ?_
    refine TW.call _ Tryd.call53 rfl (at_is w0 _ _ _ (by omega) (by omega) (v := x + 5 * 2) (by omega)) (fun _ _ => rfl) (fun _ _ _ m => m) rfl ?_
    (first | refine TW.rv (RV.idx_a _ rfl rfl rfl rfl rfl (by omega)) rfl ?_ | refine TW.rv (RV.idx_az rfl rfl (by omega) rfl rfl (by omega)) rfl ?_)
    (first | refine TW.rv (RV.load rfl (by (repeat (first | exact List.Mem.head _ | assumption | refine List.Mem.tail _ ?_)); done) (by first | rfl | assumption) rfl rfl (by first | rfl | assumption)) rfl ?_ | refine TW.rv (RV.load_at rfl rfl rfl (by (repeat (first | assumption | refine Mem.Says.cons ?_)); done)) rfl ?_)
    refine TW.rv (RV.xor64 rfl (by first | rfl | exact lit64 _ rfl) rfl (by first | rfl | exact lit64 _ rfl)) rfl ?_
    refine TW.rv (RV.move rfl) rfl ?_
    refine TW.call _ Tryd.call53 rfl (at_is w0 _ _ _ (by omega) (by omega) (v := x + 5 * 3) (by omega)) (fun _ _ => rfl) (fun _ _ _ m => m) rfl ?_
    (first | refine TW.rv (RV.idx_a _ rfl rfl rfl rfl rfl (by omega)) rfl ?_ | refine TW.rv (RV.idx_az rfl rfl (by omega) rfl rfl (by omega)) rfl ?_)
    (first | refine TW.rv (RV.load rfl (by (repeat (first | exact List.Mem.head _ | assumption | refine List.Mem.tail _ ?_)); done) (by first | rfl | assumption) rfl rfl (by first | rfl | assumption)) rfl ?_ | refine TW.rv (RV.load_at rfl rfl rfl (by (repeat (first | assumption | refine Mem.Says.cons ?_)); done)) rfl ?_)
    refine TW.rv (RV.xor64 rfl (by first | rfl | exact lit64 _ rfl) rfl (by first | rfl | exact lit64 _ rfl)) rfl ?_
    refine TW.rv (RV.move rfl) rfl ?_
    refine TW.call _ Tryd.call53 rfl (at_is w0 _ _ _ (by omega) (by omega) (v := x + 5 * 4) (by omega)) (fun _ _ => rfl) (fun _ _ _ m => m) rfl ?_
    (first | refine TW.rv (RV.idx_a _ rfl rfl rfl rfl rfl (by omega)) rfl ?_ | refine TW.rv (RV.idx_az rfl rfl (by omega) rfl rfl (by omega)) rfl ?_)
    (first | refine TW.rv (RV.load rfl (by (repeat (first | exact List.Mem.head _ | assumption | refine List.Mem.tail _ ?_)); done) (by first | rfl | assumption) rfl rfl (by first | rfl | assumption)) rfl ?_ | refine TW.rv (RV.load_at rfl rfl rfl (by (repeat (first | assumption | refine Mem.Says.cons ?_)); done)) rfl ?_)
    refine TW.rv (RV.xor64 rfl (by first | rfl | exact lit64 _ rfl) rfl (by first | rfl | exact lit64 _ rfl)) rfl ?_
    (first | refine TW.rv (RV.idx_a _ rfl rfl rfl rfl rfl (by omega)) rfl ?_ | refine TW.rv (RV.idx_az rfl rfl (by omega) rfl rfl (by omega)) rfl ?_)
    refine TW.nil ?_
    (first | refine OW.sv (SV.store rfl (by first | rfl | assumption) rfl rfl rfl (by first | assumption | (simp; done) | (simp; omega) | omega)) ?_ | (refine OW.rot1 ?_; refine OW.sv (SV.store rfl (by first | rfl | assumption) rfl rfl rfl (by first | assumption | (simp; done) | (simp; omega) | omega)) ?_) | (refine OW.rot2 ?_; refine OW.sv (SV.store rfl (by first | rfl | assumption) rfl rfl rfl (by first | assumption | (simp; done) | (simp; omega) | omega)) ?_) | (refine OW.rot3 ?_; refine OW.sv (SV.store rfl (by first | rfl | assumption) rfl rfl rfl (by first | assumption | (simp; done) | (simp; omega) | omega)) ?_) | (refine OW.rot4 ?_; refine OW.sv (SV.store rfl (by first | rfl | assumption) rfl rfl rfl (by first | assumption | (simp; done) | (simp; omega) | omega)) ?_))
    refine OW.nil ?_
    (repeat (first | refine CW.seq ?_ | refine QW.then_n ?_ | refine CW.block ?_ | refine CW.ret ?_ | refine CW.skip ?_ | refine CW.exit ?_ | refine QW.then_x ?_ | refine QW.then_r ?_ | refine QW.block_n ?_ | refine QW.block_xe ?_ | refine QW.block_xn rfl ?_ | refine QW.block_r ?_))
    (repeat (first | refine CW.seq ?_ | refine QW.then_n ?_ | refine CW.block ?_ | refine CW.ret ?_ | refine CW.skip ?_ | refine CW.exit ?_ | refine QW.then_x ?_ | refine QW.then_r ?_ | refine QW.block_n ?_ | refine QW.block_xe ?_ | refine QW.block_xn rfl ?_ | refine QW.block_r ?_))
    refine CW.region ?_
    refine OW.rv (RV.move rfl) rfl ?_
    refine OW.rv (RV.add rfl rfl (by omega)) rfl ?_
    refine OW.rv (RV.assign rfl) rfl ?_
    refine OW.nil ?_
    (repeat (first | refine CW.seq ?_ | refine QW.then_n ?_ | refine CW.block ?_ | refine CW.ret ?_ | refine CW.skip ?_ | refine CW.exit ?_ | refine QW.then_x ?_ | refine QW.then_r ?_ | refine QW.block_n ?_ | refine QW.block_xe ?_ | refine QW.block_xn rfl ?_ | refine QW.block_r ?_))
    refine QW.again (x + 1, c.set x (colS a x)) ⟨by show x + 1 ≤ 5; omega, by simp [hc], fun k hk => ?_⟩ (by show 5 - (x + 1) < 5 - x; omega) ⟨rfl, rfl, rfl, rfl, trivial⟩ (fun _ m => ?_)
    · have hk' : k < x + 1 := hk
      show g64 (c.set x (colS a x)) k = colS a k
      rw [g64_set _ _ _ _ (by omega)]
      by_cases hk2 : k = x
      · subst hk2; rw [if_pos rfl]
      · rw [if_neg hk2]; exact he k (by omega)
    · rw [← u64s_set']
      rw [Nat.zero_add] at m
      exact m
  have hx5 : x = 5 := by omega
  subst hx5
  (repeat (first | refine CW.seq ?_ | refine QW.then_n ?_ | refine CW.block ?_ | refine CW.ret ?_ | refine CW.skip ?_ | refine CW.exit ?_ | refine QW.then_x ?_ | refine QW.then_r ?_ | refine QW.block_n ?_ | refine QW.block_xe ?_ | refine QW.block_xn rfl ?_ | refine QW.block_r ?_))
  refine CW.region ?_
  (first | refine OW.rv (RV.loadW rfl (by (repeat (first | exact List.Mem.head _ | assumption | refine List.Mem.tail _ ?_)); done) (by first | rfl | assumption) rfl rfl rfl (by first | assumption | exact (u64s_length _).trans (List.length_replicate ..) | exact (u64s_length _).trans (by assumption) | rfl | (simp; done) | (simp [*]; done) | (simp [*]; rfl))) rfl ?_ | refine OW.rv (RV.loadAo rfl (by (repeat (first | exact List.Mem.head _ | assumption | refine List.Mem.tail _ ?_)); done) (by first | rfl | assumption) rfl rfl rfl (by assumption) (by first | assumption | exact (u64s_length _).trans (List.length_replicate ..) | exact (u64s_length _).trans (by assumption) | rfl | (simp; done) | (simp [*]; done) | (simp [*]; rfl))) rfl ?_ | refine OW.rv (RV.loadAs rfl rfl rfl rfl (by (repeat (first | assumption | refine Mem.Says.cons ?_)); done) (by first | assumption | exact (u64s_length _).trans (List.length_replicate ..) | exact (u64s_length _).trans (by assumption) | rfl | (simp; done) | (simp [*]; done) | (simp [*]; rfl))) rfl ?_)
  refine OW.alloc (l := u64s (List.replicate 25 0#64)) rfl (by rw [← u64s_rep]; rfl) rfl (fun b5 => ?_)
  (first | (first | refine OW.sv (SV.storeW rfl (by first | rfl | assumption) rfl (by first | exact u64s_one _ | assumption) rfl (by first | assumption | exact (u64s_length _).trans (List.length_replicate ..) | exact (u64s_length _).trans (by assumption) | rfl | (simp; done) | (simp [*]; done) | (simp [*]; rfl)) (by first | assumption | exact (u64s_length _).trans (List.length_replicate ..) | exact (u64s_length _).trans (by assumption) | rfl | (simp; done) | (simp [*]; done) | (simp [*]; rfl))) ?_ | refine OW.sv (SV.storeAs rfl (by first | rfl | assumption) rfl (by first | exact u64s_one _ | assumption) rfl (by first | assumption | exact (u64s_length _).trans (List.length_replicate ..) | exact (u64s_length _).trans (by assumption) | rfl | (simp; done) | (simp [*]; done) | (simp [*]; rfl)) (by first | assumption | (simp; done) | (simp; omega) | omega)) ?_) | (refine OW.rot1 ?_; (first | refine OW.sv (SV.storeW rfl (by first | rfl | assumption) rfl (by first | exact u64s_one _ | assumption) rfl (by first | assumption | exact (u64s_length _).trans (List.length_replicate ..) | exact (u64s_length _).trans (by assumption) | rfl | (simp; done) | (simp [*]; done) | (simp [*]; rfl)) (by first | assumption | exact (u64s_length _).trans (List.length_replicate ..) | exact (u64s_length _).trans (by assumption) | rfl | (simp; done) | (simp [*]; done) | (simp [*]; rfl))) ?_ | refine OW.sv (SV.storeAs rfl (by first | rfl | assumption) rfl (by first | exact u64s_one _ | assumption) rfl (by first | assumption | exact (u64s_length _).trans (List.length_replicate ..) | exact (u64s_length _).trans (by assumption) | rfl | (simp; done) | (simp [*]; done) | (simp [*]; rfl)) (by first | assumption | (simp; done) | (simp; omega) | omega)) ?_)) | (refine OW.rot2 ?_; (first | refine OW.sv (SV.storeW rfl (by first | rfl | assumption) rfl (by first | exact u64s_one _ | assumption) rfl (by first | assumption | exact (u64s_length _).trans (List.length_replicate ..) | exact (u64s_length _).trans (by assumption) | rfl | (simp; done) | (simp [*]; done) | (simp [*]; rfl)) (by first | assumption | exact (u64s_length _).trans (List.length_replicate ..) | exact (u64s_length _).trans (by assumption) | rfl | (simp; done) | (simp [*]; done) | (simp [*]; rfl))) ?_ | refine OW.sv (SV.storeAs rfl (by first | rfl | assumption) rfl (by first | exact u64s_one _ | assumption) rfl (by first | assumption | exact (u64s_length _).trans (List.length_replicate ..) | exact (u64s_length _).trans (by assumption) | rfl | (simp; done) | (simp [*]; done) | (simp [*]; rfl)) (by first | assumption | (simp; done) | (simp; omega) | omega)) ?_)) | (refine OW.rot3 ?_; (first | refine OW.sv (SV.storeW rfl (by first | rfl | assumption) rfl (by first | exact u64s_one _ | assumption) rfl (by first | assumption | exact (u64s_length _).trans (List.length_replicate ..) | exact (u64s_length _).trans (by assumption) | rfl | (simp; done) | (simp [*]; done) | (simp [*]; rfl)) (by first | assumption | exact (u64s_length _).trans (List.length_replicate ..) | exact (u64s_length _).trans (by assumption) | rfl | (simp; done) | (simp [*]; done) | (simp [*]; rfl))) ?_ | refine OW.sv (SV.storeAs rfl (by first | rfl | assumption) rfl (by first | exact u64s_one _ | assumption) rfl (by first | assumption | exact (u64s_length _).trans (List.length_replicate ..) | exact (u64s_length _).trans (by assumption) | rfl | (simp; done) | (simp [*]; done) | (simp [*]; rfl)) (by first | assumption | (simp; done) | (simp; omega) | omega)) ?_)) | (refine OW.rot4 ?_; (first | refine OW.sv (SV.storeW rfl (by first | rfl | assumption) rfl (by first | exact u64s_one _ | assumption) rfl (by first | assumption | exact (u64s_length _).trans (List.length_replicate ..) | exact (u64s_length _).trans (by assumption) | rfl | (simp; done) | (simp [*]; done) | (simp [*]; rfl)) (by first | assumption | exact (u64s_length _).trans (List.length_replicate ..) | exact (u64s_length _).trans (by assumption) | rfl | (simp; done) | (simp [*]; done) | (simp [*]; rfl))) ?_ | refine OW.sv (SV.storeAs rfl (by first | rfl | assumption) rfl (by first | exact u64s_one _ | assumption) rfl (by first | assumption | exact (u64s_length _).trans (List.length_replicate ..) | exact (u64s_length _).trans (by assumption) | rfl | (simp; done) | (simp [*]; done) | (simp [*]; rfl)) (by first | assumption | (simp; done) | (simp; omega) | omega)) ?_)) | (refine OW.rot5 ?_; (first | refine OW.sv (SV.storeW rfl (by first | rfl | assumption) rfl (by first | exact u64s_one _ | assumption) rfl (by first | assumption | exact (u64s_length _).trans (List.length_replicate ..) | exact (u64s_length _).trans (by assumption) | rfl | (simp; done) | (simp [*]; done) | (simp [*]; rfl)) (by first | assumption | exact (u64s_length _).trans (List.length_replicate ..) | exact (u64s_length _).trans (by assumption) | rfl | (simp; done) | (simp [*]; done) | (simp [*]; rfl))) ?_ | refine OW.sv (SV.storeAs rfl (by first | rfl | assumption) rfl (by first | exact u64s_one _ | assumption) rfl (by first | assumption | exact (u64s_length _).trans (List.length_replicate ..) | exact (u64s_length _).trans (by assumption) | rfl | (simp; done) | (simp [*]; done) | (simp [*]; rfl)) (by first | assumption | (simp; done) | (simp; omega) | omega)) ?_)) | (refine OW.rot6 ?_; (first | refine OW.sv (SV.storeW rfl (by first | rfl | assumption) rfl (by first | exact u64s_one _ | assumption) rfl (by first | assumption | exact (u64s_length _).trans (List.length_replicate ..) | exact (u64s_length _).trans (by assumption) | rfl | (simp; done) | (simp [*]; done) | (simp [*]; rfl)) (by first | assumption | exact (u64s_length _).trans (List.length_replicate ..) | exact (u64s_length _).trans (by assumption) | rfl | (simp; done) | (simp [*]; done) | (simp [*]; rfl))) ?_ | refine OW.sv (SV.storeAs rfl (by first | rfl | assumption) rfl (by first | exact u64s_one _ | assumption) rfl (by first | assumption | exact (u64s_length _).trans (List.length_replicate ..) | exact (u64s_length _).trans (by assumption) | rfl | (simp; done) | (simp [*]; done) | (simp [*]; rfl)) (by first | assumption | (simp; done) | (simp; omega) | omega)) ?_)))
  refine OW.nil ?_
  (repeat (first | refine CW.seq ?_ | refine QW.then_n ?_ | refine CW.block ?_ | refine CW.ret ?_ | refine CW.skip ?_ | refine CW.exit ?_ | refine QW.then_x ?_ | refine QW.then_r ?_ | refine QW.block_n ?_ | refine QW.block_xe ?_ | refine QW.block_xn rfl ?_ | refine QW.block_r ?_))
  (repeat (first | refine CW.seq ?_ | refine QW.then_n ?_ | refine CW.block ?_ | refine CW.ret ?_ | refine CW.skip ?_ | refine CW.exit ?_ | refine QW.then_x ?_ | refine QW.then_r ?_ | refine QW.block_n ?_ | refine QW.block_xe ?_ | refine QW.block_xn rfl ?_ | refine QW.block_r ?_))
  refine CW.region ?_
  refine OW.rv (RV.assign rfl) rfl ?_
  refine OW.nil ?_
  (repeat (first | refine CW.seq ?_ | refine QW.then_n ?_ | refine CW.block ?_ | refine CW.ret ?_ | refine CW.skip ?_ | refine CW.exit ?_ | refine QW.then_x ?_ | refine QW.then_r ?_ | refine QW.block_n ?_ | refine QW.block_xe ?_ | refine QW.block_xn rfl ?_ | refine QW.block_r ?_))
  refine CW.loop (σ := Nat × List (BitVec 64)) (fun s => s.1 ≤ 5 ∧ s.2.length = 25 ∧ ∀ k, k < 25 → k % 5 < s.1 → g64 s.2 k = thetaE a k) (fun s => [(1, ptr (some b1) 0), (2, ptr (some b2) 0), (3, ptr (some b3) 0), (5, ptr (some b5) 0), (6, .int .i64 (s.1 : Int))])
    (fun s => (some b5, blk (u64s s.2) 23) :: (some b3, blk (u64s c) 65) :: (some b2, blk (u64s (List.replicate 25 0#64)) 23) :: (some b1, blk (u64s a) 23) :: M) (fun s => 5 - s.1) (0, a) ⟨by simp, ha, fun k _ h => by omega⟩ ⟨rfl, rfl, rfl, rfl, rfl, trivial⟩ (fun _ m => m) ?_
  rintro ⟨x, b⟩ ⟨hx, hb, hbe⟩
  dsimp only at hx hb hbe ⊢
  (repeat (first | refine CW.seq ?_ | refine QW.then_n ?_ | refine CW.block ?_ | refine CW.ret ?_ | refine CW.skip ?_ | refine CW.exit ?_ | refine QW.then_x ?_ | refine QW.then_r ?_ | refine QW.block_n ?_ | refine QW.block_xe ?_ | refine QW.block_xn rfl ?_ | refine QW.block_r ?_))
  refine CW.region ?_
  refine OW.rv (RV.move rfl) rfl ?_
  refine OW.rv (RV.lss rfl rfl) rfl ?_
  refine OW.nil ?_
  (repeat (first | refine CW.seq ?_ | refine QW.then_n ?_ | refine CW.block ?_ | refine CW.ret ?_ | refine CW.skip ?_ | refine CW.exit ?_ | refine QW.then_x ?_ | refine QW.then_r ?_ | refine QW.block_n ?_ | refine QW.block_xe ?_ | refine QW.block_xn rfl ?_ | refine QW.block_r ?_))
  (first | refine CW.cond_t rfl ?_ | refine CW.cond_f rfl ?_ | refine CW.cond_p rfl (fun hxlt => ?_) (fun hxlt => ?_) | refine CW.cond_np rfl (fun hxlt => ?_) (fun hxlt => ?_) | refine CW.cond rfl (fun hxlt => ?_) (fun hxlt => ?_))
  · have hx2 : x < 5 := by omega
    (repeat (first | refine CW.seq ?_ | refine QW.then_n ?_ | refine CW.block ?_ | refine CW.ret ?_ | refine CW.skip ?_ | refine CW.exit ?_ | refine QW.then_x ?_ | refine QW.then_r ?_ | refine QW.block_n ?_ | refine QW.block_xe ?_ | refine QW.block_xn rfl ?_ | refine QW.block_r ?_))
    refine CW.region ?_
    refine OW.rv (RV.assign rfl) rfl ?_
    refine OW.nil ?_
    (repeat (first | refine CW.seq ?_ | refine QW.then_n ?_ | refine CW.block ?_ | refine CW.ret ?_ | refine CW.skip ?_ | refine CW.exit ?_ | refine QW.then_x ?_ | refine QW.then_r ?_ | refine QW.block_n ?_ | refine QW.block_xe ?_ | refine QW.block_xn rfl ?_ | refine QW.block_r ?_))
    refine CW.loop (σ := Nat × List (BitVec 64)) (fun s => s.1 ≤ 5 ∧ s.2.length = 25 ∧ ∀ k, k < 25 → (k % 5 < x ∨ (k % 5 = x ∧ k / 5 < s.1)) → g64 s.2 k = thetaE a k) (fun s => [(1, ptr (some b1) 0), (2, ptr (some b2) 0), (3, ptr (some b3) 0), (5, ptr (some b5) 0), (6, .int .i64 (x : Int)), (7, .int .i64 (s.1 : Int))])
      (fun s => (some b5, blk (u64s s.2) 23) :: (some b3, blk (u64s c) 65) :: (some b2, blk (u64s (List.replicate 25 0#64)) 23) :: (some b1, blk (u64s a) 23) :: M) (fun s => 5 - s.1) (0, b) ⟨by simp, hb, fun k h1 h2 => hbe k h1 (by omega)⟩ ⟨rfl, rfl, rfl, rfl, rfl, rfl, trivial⟩ (fun _ m => m) ?_
    clear hb hbe b
    rintro ⟨y, b⟩ ⟨hy, hb, hbe⟩
    dsimp only at hy hb hbe ⊢
    (repeat (first | refine CW.seq ?_ | refine QW.then_n ?_ | refine CW.block ?_ | refine CW.ret ?_ | refine CW.skip ?_ | refine CW.exit ?_ | refine QW.then_x ?_ | refine QW.then_r ?_ | refine QW.block_n ?_ | refine QW.block_xe ?_ | refine QW.block_xn rfl ?_ | refine QW.block_r ?_))
    refine CW.region ?_
    refine OW.rv (RV.move rfl) rfl ?_
    refine OW.rv (RV.lss rfl rfl) rfl ?_
    refine OW.nil ?_
    (repeat (first | refine CW.seq ?_ | refine QW.then_n ?_ | refine CW.block ?_ | refine CW.ret ?_ | refine CW.skip ?_ | refine CW.exit ?_ | refine QW.then_x ?_ | refine QW.then_r ?_ | refine QW.block_n ?_ | refine QW.block_xe ?_ | refine QW.block_xn rfl ?_ | refine QW.block_r ?_))
    (first | refine CW.cond_t rfl ?_ | refine CW.cond_f rfl ?_ | refine CW.cond_p rfl (fun hylt => ?_) (fun hylt => ?_) | refine CW.cond_np rfl (fun hylt => ?_) (fun hylt => ?_) | refine CW.cond rfl (fun hylt => ?_) (fun hylt => ?_))
    · have hy2 : y < 5 := by omega
      have qa : (u64s a)[0 + (x + 5 * y)]? = some (U64 (g64 a (x + 5 * y))) := by rw [Nat.zero_add]; exact u64s_get (by omega)
      have e4 : 0 + (((x : Int) + 4) % 5).toNat = (x + 4) % 5 := by omega
      have e1 : 0 + (((x : Int) + 1) % 5).toNat = (x + 1) % 5 := by omega
      have g4 : (u64s c)[0 + (((x : Int) + 4) % 5).toNat]? = some (U64 (g64 c ((x + 4) % 5))) := by rw [e4]; exact u64s_get (by omega)
      have g1 : (u64s c)[0 + (((x : Int) + 1) % 5).toNat]? = some (U64 (g64 c ((x + 1) % 5))) := by rw [e1]; exact u64s_get (by omega)
      have hl2 : 0 + (x + 5 * y) < (u64s b).length := by rw [u64s_length]; omega
      (repeat (first | refine CW.seq ?_ | refine QW.then_n ?_ | refine CW.block ?_ | refine CW.ret ?_ | refine CW.skip ?_ | refine CW.exit ?_ | refine QW.then_x ?_ | refine QW.then_r ?_ | refine QW.block_n ?_ | refine QW.block_xe ?_ | refine QW.block_xn rfl ?_ | refine QW.block_r ?_))
      refine CW.drawsT 22 mixed (by kernel_rfl) ?_
      refine TW.rv (RV.move rfl) rfl ?_
      refine TW.rv (RV.move rfl) rfl ?_
      refine TW.call _ Tryd.call53 rfl (at_is w0 _ _ _ (by omega) (by omega) (v := x + 5 * y) (by omega)) (fun _ _ => rfl) (fun _ _ _ m => m) rfl ?_
      refine TW.rv (RV.move rfl) rfl ?_
      refine TW.rv (RV.move rfl) rfl ?_
      refine TW.call _ Tryd.call53 rfl (at_is w0 _ _ _ (by omega) (by omega) (v := x + 5 * y) (by omega)) (fun _ _ => rfl) (fun _ _ _ m => m) rfl ?_
      (first | refine TW.rv (RV.idx_a _ rfl rfl rfl rfl rfl (by omega)) rfl ?_ | refine TW.rv (RV.idx_az rfl rfl (by omega) rfl rfl (by omega)) rfl ?_)
      (first | refine TW.rv (RV.load rfl (by (repeat (first | exact List.Mem.head _ | assumption | refine List.Mem.tail _ ?_)); done) (by first | rfl | assumption) rfl rfl (by first | rfl | assumption)) rfl ?_ | refine TW.rv (RV.load_at rfl rfl rfl (by (repeat (first | assumption | refine Mem.Says.cons ?_)); done)) rfl ?_)
      refine TW.rv (RV.move rfl) rfl ?_
      refine TW.rv (RV.add rfl rfl (by omega)) rfl ?_
      (first | refine TW.rv (RV.rem rfl rfl (by omega) (by omega)) rfl ?_ | refine TW.rv (RV.trem rfl rfl (by omega)) rfl ?_)
      (first | refine TW.rv (RV.idx_a _ rfl rfl rfl rfl rfl (by omega)) rfl ?_ | refine TW.rv (RV.idx_az rfl rfl (by omega) rfl rfl (by omega)) rfl ?_)
      (first | refine TW.rv (RV.load rfl (by (repeat (first | exact List.Mem.head _ | assumption | refine List.Mem.tail _ ?_)); done) (by first | rfl | assumption) rfl rfl (by first | rfl | assumption)) rfl ?_ | refine TW.rv (RV.load_at rfl rfl rfl (by (repeat (first | assumption | refine Mem.Says.cons ?_)); done)) rfl ?_)
      refine TW.rv (RV.xor64 rfl (by first | rfl | exact lit64 _ rfl) rfl (by first | rfl | exact lit64 _ rfl)) rfl ?_
      refine TW.rv (RV.move rfl) rfl ?_
      refine TW.rv (RV.add rfl rfl (by omega)) rfl ?_
      (first | refine TW.rv (RV.rem rfl rfl (by omega) (by omega)) rfl ?_ | refine TW.rv (RV.trem rfl rfl (by omega)) rfl ?_)
      (first | refine TW.rv (RV.idx_a _ rfl rfl rfl rfl rfl (by omega)) rfl ?_ | refine TW.rv (RV.idx_az rfl rfl (by omega) rfl rfl (by omega)) rfl ?_)
      (first | refine TW.rv (RV.load rfl (by (repeat (first | exact List.Mem.head _ | assumption | refine List.Mem.tail _ ?_)); done) (by first | rfl | assumption) rfl rfl (by first | rfl | assumption)) rfl ?_ | refine TW.rv (RV.load_at rfl rfl rfl (by (repeat (first | assumption | refine Mem.Says.cons ?_)); done)) rfl ?_)
      refine TW.call _ Tryd.call54 rfl (Rot_does w0 _ _ 1 (by decide) (by decide)) (fun _ _ => rfl) (fun _ _ _ m => m) rfl ?_
      refine TW.rv (RV.xor64 rfl (by first | rfl | exact lit64 _ rfl) rfl (by first | rfl | exact lit64 _ rfl)) rfl ?_
      (first | refine TW.rv (RV.idx_a _ rfl rfl rfl rfl rfl (by omega)) rfl ?_ | refine TW.rv (RV.idx_az rfl rfl (by omega) rfl rfl (by omega)) rfl ?_)
      refine TW.nil ?_
      (first | refine OW.sv (SV.store rfl (by first | rfl | assumption) rfl rfl rfl (by first | assumption | (simp; done) | (simp; omega) | omega)) ?_ | (refine OW.rot1 ?_; refine OW.sv (SV.store rfl (by first | rfl | assumption) rfl rfl rfl (by first | assumption | (simp; done) | (simp; omega) | omega)) ?_) | (refine OW.rot2 ?_; refine OW.sv (SV.store rfl (by first | rfl | assumption) rfl rfl rfl (by first | assumption | (simp; done) | (simp; omega) | omega)) ?_) | (refine OW.rot3 ?_; refine OW.sv (SV.store rfl (by first | rfl | assumption) rfl rfl rfl (by first | assumption | (simp; done) | (simp; omega) | omega)) ?_) | (refine OW.rot4 ?_; refine OW.sv (SV.store rfl (by first | rfl | assumption) rfl rfl rfl (by first | assumption | (simp; done) | (simp; omega) | omega)) ?_))
      refine OW.nil ?_
      (repeat (first | refine CW.seq ?_ | refine QW.then_n ?_ | refine CW.block ?_ | refine CW.ret ?_ | refine CW.skip ?_ | refine CW.exit ?_ | refine QW.then_x ?_ | refine QW.then_r ?_ | refine QW.block_n ?_ | refine QW.block_xe ?_ | refine QW.block_xn rfl ?_ | refine QW.block_r ?_))
      (repeat (first | refine CW.seq ?_ | refine QW.then_n ?_ | refine CW.block ?_ | refine CW.ret ?_ | refine CW.skip ?_ | refine CW.exit ?_ | refine QW.then_x ?_ | refine QW.then_r ?_ | refine QW.block_n ?_ | refine QW.block_xe ?_ | refine QW.block_xn rfl ?_ | refine QW.block_r ?_))
      refine CW.region ?_
      refine OW.rv (RV.move rfl) rfl ?_
      refine OW.rv (RV.add rfl rfl (by omega)) rfl ?_
      refine OW.rv (RV.assign rfl) rfl ?_
      refine OW.nil ?_
      (repeat (first | refine CW.seq ?_ | refine QW.then_n ?_ | refine CW.block ?_ | refine CW.ret ?_ | refine CW.skip ?_ | refine CW.exit ?_ | refine QW.then_x ?_ | refine QW.then_r ?_ | refine QW.block_n ?_ | refine QW.block_xe ?_ | refine QW.block_xn rfl ?_ | refine QW.block_r ?_))
      have ev : g64 a (x + 5 * y) ^^^ g64 c ((x + 4) % 5) ^^^ rotl (g64 c ((x + 1) % 5)) (1 : Int).toNat = thetaE a (x + 5 * y) := by
        rw [he _ (by omega), he _ (by omega), BitVec.xor_assoc]
        unfold thetaE
        rw [show (x + 5 * y + 4) % 5 = (x + 4) % 5 by omega, show (x + 5 * y + 1) % 5 = (x + 1) % 5 by omega]; rfl
      refine QW.again (y + 1, b.set (x + 5 * y) (thetaE a (x + 5 * y))) ⟨by show y + 1 ≤ 5; omega, by simp [hb], fun k h1 h2 => ?_⟩ (by show 5 - (y + 1) < 5 - y; omega) ⟨rfl, rfl, rfl, rfl, rfl, rfl, trivial⟩ (fun _ m => ?_)
      · have h2' : k % 5 < x ∨ (k % 5 = x ∧ k / 5 < y + 1) := h2
        show g64 (b.set (x + 5 * y) (thetaE a (x + 5 * y))) k = thetaE a k
        rw [g64_set _ _ _ _ (by omega)]
        by_cases hk2 : k = x + 5 * y
        · subst hk2; rw [if_pos rfl]
        · rw [if_neg hk2]; exact hbe k h1 (by omega)
      · rw [ev, Nat.zero_add, u64s_set'] at m
        exact m
    · (repeat (first | refine CW.seq ?_ | refine QW.then_n ?_ | refine CW.block ?_ | refine CW.ret ?_ | refine CW.skip ?_ | refine CW.exit ?_ | refine QW.then_x ?_ | refine QW.then_r ?_ | refine QW.block_n ?_ | refine QW.block_xe ?_ | refine QW.block_xn rfl ?_ | refine QW.block_r ?_))
      refine CW.region ?_
      refine OW.rv (RV.move rfl) rfl ?_
      refine OW.rv (RV.add rfl rfl (by omega)) rfl ?_
      refine OW.rv (RV.assign rfl) rfl ?_
      refine OW.nil ?_
      (repeat (first | refine CW.seq ?_ | refine QW.then_n ?_ | refine CW.block ?_ | refine CW.ret ?_ | refine CW.skip ?_ | refine CW.exit ?_ | refine QW.then_x ?_ | refine QW.then_r ?_ | refine QW.block_n ?_ | refine QW.block_xe ?_ | refine QW.block_xn rfl ?_ | refine QW.block_r ?_))
      exact QW.again (x + 1, b) ⟨by show x + 1 ≤ 5; omega, hb, fun k h1 h2 => hbe k h1 (by have h2' : k % 5 < x + 1 := h2; omega)⟩ (by show 5 - (x + 1) < 5 - x; omega) ⟨rfl, rfl, rfl, rfl, rfl, trivial⟩ (fun _ m => m)
  have hx5 : x = 5 := by omega
  subst hx5
  have eb : b = (List.range 25).map (thetaE a) := by
    refine ext25 hb (by simp) fun j hj => ?_
    rw [hbe j hj (by omega)]
    simp only [g64, List.getD, List.getElem?_map, List.getElem?_range hj, Option.map_some, Option.getD_some]
  rw [← eb]
  (repeat (first | refine CW.seq ?_ | refine QW.then_n ?_ | refine CW.block ?_ | refine CW.ret ?_ | refine CW.skip ?_ | refine CW.exit ?_ | refine QW.then_x ?_ | refine QW.then_r ?_ | refine QW.block_n ?_ | refine QW.block_xe ?_ | refine QW.block_xn rfl ?_ | refine QW.block_r ?_))
  refine CW.region ?_
  (first | refine OW.rv (RV.loadW rfl (by (repeat (first | exact List.Mem.head _ | assumption | refine List.Mem.tail _ ?_)); done) (by first | rfl | assumption) rfl rfl rfl (by first | assumption | exact (u64s_length _).trans (List.length_replicate ..) | exact (u64s_length _).trans (by assumption) | rfl | (simp; done) | (simp [*]; done) | (simp [*]; rfl))) rfl ?_ | refine OW.rv (RV.loadAo rfl (by (repeat (first | exact List.Mem.head _ | assumption | refine List.Mem.tail _ ?_)); done) (by first | rfl | assumption) rfl rfl rfl (by assumption) (by first | assumption | exact (u64s_length _).trans (List.length_replicate ..) | exact (u64s_length _).trans (by assumption) | rfl | (simp; done) | (simp [*]; done) | (simp [*]; rfl))) rfl ?_ | refine OW.rv (RV.loadAs rfl rfl rfl rfl (by (repeat (first | assumption | refine Mem.Says.cons ?_)); done) (by first | assumption | exact (u64s_length _).trans (List.length_replicate ..) | exact (u64s_length _).trans (by assumption) | rfl | (simp; done) | (simp [*]; done) | (simp [*]; rfl))) rfl ?_)
  (first | (first | refine OW.sv (SV.storeW rfl (by first | rfl | assumption) rfl (by first | exact u64s_one _ | assumption) rfl (by first | assumption | exact (u64s_length _).trans (List.length_replicate ..) | exact (u64s_length _).trans (by assumption) | rfl | (simp; done) | (simp [*]; done) | (simp [*]; rfl)) (by first | assumption | exact (u64s_length _).trans (List.length_replicate ..) | exact (u64s_length _).trans (by assumption) | rfl | (simp; done) | (simp [*]; done) | (simp [*]; rfl))) ?_ | refine OW.sv (SV.storeAs rfl (by first | rfl | assumption) rfl (by first | exact u64s_one _ | assumption) rfl (by first | assumption | exact (u64s_length _).trans (List.length_replicate ..) | exact (u64s_length _).trans (by assumption) | rfl | (simp; done) | (simp [*]; done) | (simp [*]; rfl)) (by first | assumption | (simp; done) | (simp; omega) | omega)) ?_) | (refine OW.rot1 ?_; (first | refine OW.sv (SV.storeW rfl (by first | rfl | assumption) rfl (by first | exact u64s_one _ | assumption) rfl (by first | assumption | exact (u64s_length _).trans (List.length_replicate ..) | exact (u64s_length _).trans (by assumption) | rfl | (simp; done) | (simp [*]; done) | (simp [*]; rfl)) (by first | assumption | exact (u64s_length _).trans (List.length_replicate ..) | exact (u64s_length _).trans (by assumption) | rfl | (simp; done) | (simp [*]; done) | (simp [*]; rfl))) ?_ | refine OW.sv (SV.storeAs rfl (by first | rfl | assumption) rfl (by first | exact u64s_one _ | assumption) rfl (by first | assumption | exact (u64s_length _).trans (List.length_replicate ..) | exact (u64s_length _).trans (by assumption) | rfl | (simp; done) | (simp [*]; done) | (simp [*]; rfl)) (by first | assumption | (simp; done) | (simp; omega) | omega)) ?_)) | (refine OW.rot2 ?_; (first | refine OW.sv (SV.storeW rfl (by first | rfl | assumption) rfl (by first | exact u64s_one _ | assumption) rfl (by first | assumption | exact (u64s_length _).trans (List.length_replicate ..) | exact (u64s_length _).trans (by assumption) | rfl | (simp; done) | (simp [*]; done) | (simp [*]; rfl)) (by first | assumption | exact (u64s_length _).trans (List.length_replicate ..) | exact (u64s_length _).trans (by assumption) | rfl | (simp; done) | (simp [*]; done) | (simp [*]; rfl))) ?_ | refine OW.sv (SV.storeAs rfl (by first | rfl | assumption) rfl (by first | exact u64s_one _ | assumption) rfl (by first | assumption | exact (u64s_length _).trans (List.length_replicate ..) | exact (u64s_length _).trans (by assumption) | rfl | (simp; done) | (simp [*]; done) | (simp [*]; rfl)) (by first | assumption | (simp; done) | (simp; omega) | omega)) ?_)) | (refine OW.rot3 ?_; (first | refine OW.sv (SV.storeW rfl (by first | rfl | assumption) rfl (by first | exact u64s_one _ | assumption) rfl (by first | assumption | exact (u64s_length _).trans (List.length_replicate ..) | exact (u64s_length _).trans (by assumption) | rfl | (simp; done) | (simp [*]; done) | (simp [*]; rfl)) (by first | assumption | exact (u64s_length _).trans (List.length_replicate ..) | exact (u64s_length _).trans (by assumption) | rfl | (simp; done) | (simp [*]; done) | (simp [*]; rfl))) ?_ | refine OW.sv (SV.storeAs rfl (by first | rfl | assumption) rfl (by first | exact u64s_one _ | assumption) rfl (by first | assumption | exact (u64s_length _).trans (List.length_replicate ..) | exact (u64s_length _).trans (by assumption) | rfl | (simp; done) | (simp [*]; done) | (simp [*]; rfl)) (by first | assumption | (simp; done) | (simp; omega) | omega)) ?_)) | (refine OW.rot4 ?_; (first | refine OW.sv (SV.storeW rfl (by first | rfl | assumption) rfl (by first | exact u64s_one _ | assumption) rfl (by first | assumption | exact (u64s_length _).trans (List.length_replicate ..) | exact (u64s_length _).trans (by assumption) | rfl | (simp; done) | (simp [*]; done) | (simp [*]; rfl)) (by first | assumption | exact (u64s_length _).trans (List.length_replicate ..) | exact (u64s_length _).trans (by assumption) | rfl | (simp; done) | (simp [*]; done) | (simp [*]; rfl))) ?_ | refine OW.sv (SV.storeAs rfl (by first | rfl | assumption) rfl (by first | exact u64s_one _ | assumption) rfl (by first | assumption | exact (u64s_length _).trans (List.length_replicate ..) | exact (u64s_length _).trans (by assumption) | rfl | (simp; done) | (simp [*]; done) | (simp [*]; rfl)) (by first | assumption | (simp; done) | (simp; omega) | omega)) ?_)) | (refine OW.rot5 ?_; (first | refine OW.sv (SV.storeW rfl (by first | rfl | assumption) rfl (by first | exact u64s_one _ | assumption) rfl (by first | assumption | exact (u64s_length _).trans (List.length_replicate ..) | exact (u64s_length _).trans (by assumption) | rfl | (simp; done) | (simp [*]; done) | (simp [*]; rfl)) (by first | assumption | exact (u64s_length _).trans (List.length_replicate ..) | exact (u64s_length _).trans (by assumption) | rfl | (simp; done) | (simp [*]; done) | (simp [*]; rfl))) ?_ | refine OW.sv (SV.storeAs rfl (by first | rfl | assumption) rfl (by first | exact u64s_one _ | assumption) rfl (by first | assumption | exact (u64s_length _).trans (List.length_replicate ..) | exact (u64s_length _).trans (by assumption) | rfl | (simp; done) | (simp [*]; done) | (simp [*]; rfl)) (by first | assumption | (simp; done) | (simp; omega) | omega)) ?_)) | (refine OW.rot6 ?_; (first | refine OW.sv (SV.storeW rfl (by first | rfl | assumption) rfl (by first | exact u64s_one _ | assumption) rfl (by first | assumption | exact (u64s_length _).trans (List.length_replicate ..) | exact (u64s_length _).trans (by assumption) | rfl | (simp; done) | (simp [*]; done) | (simp [*]; rfl)) (by first | assumption | exact (u64s_length _).trans (List.length_replicate ..) | exact (u64s_length _).trans (by assumption) | rfl | (simp; done) | (simp [*]; done) | (simp [*]; rfl))) ?_ | refine OW.sv (SV.storeAs rfl (by first | rfl | assumption) rfl (by first | exact u64s_one _ | assumption) rfl (by first | assumption | exact (u64s_length _).trans (List.length_replicate ..) | exact (u64s_length _).trans (by assumption) | rfl | (simp; done) | (simp [*]; done) | (simp [*]; rfl)) (by first | assumption | (simp; done) | (simp; omega) | omega)) ?_)))
  refine OW.nil ?_
  (repeat (first | refine CW.seq ?_ | refine QW.then_n ?_ | refine CW.block ?_ | refine CW.ret ?_ | refine CW.skip ?_ | refine CW.exit ?_ | refine QW.then_x ?_ | refine QW.then_r ?_ | refine QW.block_n ?_ | refine QW.block_xe ?_ | refine QW.block_xn rfl ?_ | refine QW.block_r ?_))
  exact QW.retC1 rfl () trivial rfl (List.Mem.head _) rfl rfl rfl rfl ((u64s_length _).trans hb) rfl (fun _ m => m.tail.tail.tail.tail)
end Go.Fw.Tryd
