/- Part of a proof: rules that its law uses. -/
import Derived.Test.YtgonajfngmeanaaDoorTy
import Derived.Test.YtgonajfngmeanaaDoorShaL
namespace Go.Fw.Tryd
open Go Go.Proofs
set_option maxRecDepth 100000
set_option linter.unusedVariables false
theorem rotl_does (w0 : World) (M : List Ent) (x : BitVec 32) (k : Int) (n : Nat) (h1 : (BitVec.ofInt 64 k &&& 31#64).toNat = 32 - n) (h2 : (32#64 - (BitVec.ofInt 64 k &&& 31#64)).toNat = n) : Does Tryd.prog 51 [U32 x, .int .i64 k] w0 M (τ := Unit) (fun _ => True) (fun _ => U32 (rotr x n)) (fun _ => M) := by
  refine Does.enter Tryd.func51 rfl Tryd.ntmps51 rfl ?_
  (repeat (first | refine CW.seq ?_ | refine QW.then_n ?_ | refine CW.block ?_ | refine CW.ret ?_ | refine CW.skip ?_ | refine CW.exit ?_ | refine QW.then_x ?_ | refine QW.then_r ?_ | refine QW.block_n ?_ | refine QW.block_xe ?_ | refine QW.block_xn rfl ?_ | refine QW.block_r ?_))
  refine CW.region ?_
  refine OW.rv (RV.assign rfl) rfl ?_
  refine OW.nil ?_
  (repeat (first | refine CW.seq ?_ | refine QW.then_n ?_ | refine CW.block ?_ | refine CW.ret ?_ | refine CW.skip ?_ | refine CW.exit ?_ | refine QW.then_x ?_ | refine QW.then_r ?_ | refine QW.block_n ?_ | refine QW.block_xe ?_ | refine QW.block_xn rfl ?_ | refine QW.block_r ?_))
  (repeat (first | refine CW.seq ?_ | refine QW.then_n ?_ | refine CW.block ?_ | refine CW.ret ?_ | refine CW.skip ?_ | refine CW.exit ?_ | refine QW.then_x ?_ | refine QW.then_r ?_ | refine QW.block_n ?_ | refine QW.block_xe ?_ | refine QW.block_xn rfl ?_ | refine QW.block_r ?_))
  refine CW.region ?_
  refine OW.rv (RV.move rfl) rfl ?_
  refine OW.rv (RV.conv_i64 rfl rfl rfl) rfl ?_
  refine OW.rv (RV.and64 rfl (by first | rfl | exact lit64 _ rfl) rfl (by first | rfl | exact lit64 _ rfl)) rfl ?_
  refine OW.rv (RV.assign rfl) rfl ?_
  refine OW.nil ?_
  (repeat (first | refine CW.seq ?_ | refine QW.then_n ?_ | refine CW.block ?_ | refine CW.ret ?_ | refine CW.skip ?_ | refine CW.exit ?_ | refine QW.then_x ?_ | refine QW.then_r ?_ | refine QW.block_n ?_ | refine QW.block_xe ?_ | refine QW.block_xn rfl ?_ | refine QW.block_r ?_))
  (repeat (first | refine CW.seq ?_ | refine QW.then_n ?_ | refine CW.block ?_ | refine CW.ret ?_ | refine CW.skip ?_ | refine CW.exit ?_ | refine QW.then_x ?_ | refine QW.then_r ?_ | refine QW.block_n ?_ | refine QW.block_xe ?_ | refine QW.block_xn rfl ?_ | refine QW.block_r ?_))
  refine CW.region ?_
  refine OW.rv (RV.move rfl) rfl ?_
  refine OW.rv (RV.move rfl) rfl ?_
  (first | refine OW.rv (RV.shl32 rfl (by first | rfl | exact lit32 _ rfl) rfl rfl) rfl ?_ | refine OW.rv (RV.shl32_i rfl (by first | rfl | exact lit32 _ rfl) rfl (by omega)) rfl ?_)
  refine OW.rv (RV.move rfl) rfl ?_
  refine OW.rv (RV.move rfl) rfl ?_
  refine OW.rv (RV.sub64 rfl (by first | rfl | exact lit64 _ rfl) rfl (by first | rfl | exact lit64 _ rfl)) rfl ?_
  (first | refine OW.rv (RV.shr32 rfl (by first | rfl | exact lit32 _ rfl) rfl rfl) rfl ?_ | refine OW.rv (RV.shr32_i rfl (by first | rfl | exact lit32 _ rfl) rfl (by omega)) rfl ?_)
  refine OW.rv (RV.or32 rfl (by first | rfl | exact lit32 _ rfl) rfl (by first | rfl | exact lit32 _ rfl)) rfl ?_
  refine OW.rv (RV.assign rfl) rfl ?_
  refine OW.nil ?_
  (repeat (first | refine CW.seq ?_ | refine QW.then_n ?_ | refine CW.block ?_ | refine CW.ret ?_ | refine CW.skip ?_ | refine CW.exit ?_ | refine QW.then_x ?_ | refine QW.then_r ?_ | refine QW.block_n ?_ | refine QW.block_xe ?_ | refine QW.block_xn rfl ?_ | refine QW.block_r ?_))
  refine QW.ret1 rfl () trivial ?_ (fun _ m => m)
  have e : x <<< (BitVec.ofInt 64 k &&& 31#64).toNat ||| x >>> (32#64 - (BitVec.ofInt 64 k &&& 31#64)).toNat = rotr x n := by rw [h1, h2, BitVec.or_comm]; rfl
  rw [← e]; rfl
theorem turned_does (w0 : World) (M : List Ent) (x : BitVec 32) (k : BitVec 64) (n : Nat) (h1 : k.toNat = n) (h2 : (32#64 - k).toNat = 32 - n) : Does Tryd.prog 55 [U32 x, U64 k] w0 M (τ := Unit) (fun _ => True) (fun _ => U32 (rotr x n)) (fun _ => M) := by
  refine Does.enter Tryd.func55 rfl Tryd.ntmps55 rfl ?_
  (repeat (first | refine CW.seq ?_ | refine QW.then_n ?_ | refine CW.block ?_ | refine CW.ret ?_ | refine CW.skip ?_ | refine CW.exit ?_ | refine QW.then_x ?_ | refine QW.then_r ?_ | refine QW.block_n ?_ | refine QW.block_xe ?_ | refine QW.block_xn rfl ?_ | refine QW.block_r ?_))
  refine CW.region ?_
  refine OW.rv (RV.assign rfl) rfl ?_
  refine OW.nil ?_
  (repeat (first | refine CW.seq ?_ | refine QW.then_n ?_ | refine CW.block ?_ | refine CW.ret ?_ | refine CW.skip ?_ | refine CW.exit ?_ | refine QW.then_x ?_ | refine QW.then_r ?_ | refine QW.block_n ?_ | refine QW.block_xe ?_ | refine QW.block_xn rfl ?_ | refine QW.block_r ?_))
  (repeat (first | refine CW.seq ?_ | refine QW.then_n ?_ | refine CW.block ?_ | refine CW.ret ?_ | refine CW.skip ?_ | refine CW.exit ?_ | refine QW.then_x ?_ | refine QW.then_r ?_ | refine QW.block_n ?_ | refine QW.block_xe ?_ | refine QW.block_xn rfl ?_ | refine QW.block_r ?_))
  refine CW.region ?_
  refine OW.rv (RV.move rfl) rfl ?_
  refine OW.rv (RV.move rfl) rfl ?_
  (first | refine OW.rv (RV.shr32 rfl (by first | rfl | exact lit32 _ rfl) rfl rfl) rfl ?_ | refine OW.rv (RV.shr32_i rfl (by first | rfl | exact lit32 _ rfl) rfl (by omega)) rfl ?_)
  refine OW.rv (RV.move rfl) rfl ?_
  refine OW.rv (RV.move rfl) rfl ?_
  refine OW.rv (RV.sub64 rfl (by first | rfl | exact lit64 _ rfl) rfl (by first | rfl | exact lit64 _ rfl)) rfl ?_
  (first | refine OW.rv (RV.shl32 rfl (by first | rfl | exact lit32 _ rfl) rfl rfl) rfl ?_ | refine OW.rv (RV.shl32_i rfl (by first | rfl | exact lit32 _ rfl) rfl (by omega)) rfl ?_)
  refine OW.rv (RV.or32 rfl (by first | rfl | exact lit32 _ rfl) rfl (by first | rfl | exact lit32 _ rfl)) rfl ?_
  refine OW.rv (RV.assign rfl) rfl ?_
  refine OW.nil ?_
  (repeat (first | refine CW.seq ?_ | refine QW.then_n ?_ | refine CW.block ?_ | refine CW.ret ?_ | refine CW.skip ?_ | refine CW.exit ?_ | refine QW.then_x ?_ | refine QW.then_r ?_ | refine QW.block_n ?_ | refine QW.block_xe ?_ | refine QW.block_xn rfl ?_ | refine QW.block_r ?_))
  refine QW.ret1 rfl () trivial ?_ (fun _ m => m)
  have e : x >>> k.toNat ||| x <<< (32#64 - k).toNat = rotr x n := by rw [h1, h2]; rfl
  rw [← e]; rfl
theorem words_does (w0 : World) (M : List Ent) (A : Option Addr) (ca : Nat) (bs : List (BitVec 8)) (hA : Mem.Says w0 M (fun w => Rd w A (u8s bs))) (hl : bs.length = 64) (hca : 64 ≤ ca) :
    Does Tryd.prog 50 [.slice A 64 ca] w0 M (τ := Unit) (fun _ => True) (fun _ => .agg (u32s (wTo bs 48)).toArray) (fun _ => M) := by
  refine Does.of_mem fun w1 m1 => ?_
  have sA : A.isSome = true := Rd.someOf (f := U8) (hA w1 m1) (i := 0) (by omega)
  refine Does.enter Tryd.func50 rfl Tryd.ntmps50 rfl ?_
  (repeat (first | refine CW.seq ?_ | refine QW.then_n ?_ | refine CW.block ?_ | refine CW.ret ?_ | refine CW.skip ?_ | refine CW.exit ?_ | refine QW.then_x ?_ | refine QW.then_r ?_ | refine QW.block_n ?_ | refine QW.block_xe ?_ | refine QW.block_xn rfl ?_ | refine QW.block_r ?_))
  refine CW.region ?_
  refine OW.alloc (l := u32s (List.replicate 64 0#32)) rfl (by rw [← u32s_rep]; rfl) rfl (fun b2 => ?_)
  refine OW.nil ?_
  (repeat (first | refine CW.seq ?_ | refine QW.then_n ?_ | refine CW.block ?_ | refine CW.ret ?_ | refine CW.skip ?_ | refine CW.exit ?_ | refine QW.then_x ?_ | refine QW.then_r ?_ | refine QW.block_n ?_ | refine QW.block_xe ?_ | refine QW.block_xn rfl ?_ | refine QW.block_r ?_))
  (repeat (first | refine CW.seq ?_ | refine QW.then_n ?_ | refine CW.block ?_ | refine CW.ret ?_ | refine CW.skip ?_ | refine CW.exit ?_ | refine QW.then_x ?_ | refine QW.then_r ?_ | refine QW.block_n ?_ | refine QW.block_xe ?_ | refine QW.block_xn rfl ?_ | refine QW.block_r ?_))
  refine CW.region ?_
  refine OW.alloc (l := u32s (List.replicate 64 0#32)) rfl (by rw [← u32s_rep]; rfl) rfl (fun b3 => ?_)
  refine OW.nil ?_
  (repeat (first | refine CW.seq ?_ | refine QW.then_n ?_ | refine CW.block ?_ | refine CW.ret ?_ | refine CW.skip ?_ | refine CW.exit ?_ | refine QW.then_x ?_ | refine QW.then_r ?_ | refine QW.block_n ?_ | refine QW.block_xe ?_ | refine QW.block_xn rfl ?_ | refine QW.block_r ?_))
  (repeat (first | refine CW.seq ?_ | refine QW.then_n ?_ | refine CW.block ?_ | refine CW.ret ?_ | refine CW.skip ?_ | refine CW.exit ?_ | refine QW.then_x ?_ | refine QW.then_r ?_ | refine QW.block_n ?_ | refine QW.block_xe ?_ | refine QW.block_xn rfl ?_ | refine QW.block_r ?_))
  refine CW.region ?_
  refine OW.rv (RV.move rfl) rfl ?_
  refine OW.nil ?_
  (repeat (first | refine CW.seq ?_ | refine QW.then_n ?_ | refine CW.block ?_ | refine CW.ret ?_ | refine CW.skip ?_ | refine CW.exit ?_ | refine QW.then_x ?_ | refine QW.then_r ?_ | refine QW.block_n ?_ | refine QW.block_xe ?_ | refine QW.block_xn rfl ?_ | refine QW.block_r ?_))
  refine CW.loop (σ := Nat) (fun i => i ≤ 16) (fun i => [(0, .slice A 64 ca), (2, ptr (some b2) 0), (3, ptr (some b3) 0), (12, .int .i64 (i : Int))])
    (fun i => (some b3, blk (u32s (firstW bs i ++ List.replicate (64 - i) 0#32)) 80) :: (some b2, blk (u32s (List.replicate 64 0#32)) 80) :: M) (fun i => 16 - i) 0 (by omega) ⟨rfl, rfl, rfl, rfl, trivial⟩ (fun _ m => m) ?_
  · intro i hi
    (repeat (first | refine CW.seq ?_ | refine QW.then_n ?_ | refine CW.block ?_ | refine CW.ret ?_ | refine CW.skip ?_ | refine CW.exit ?_ | refine QW.then_x ?_ | refine QW.then_r ?_ | refine QW.block_n ?_ | refine QW.block_xe ?_ | refine QW.block_xn rfl ?_ | refine QW.block_r ?_))
    refine CW.region ?_
    refine OW.rv (RV.lss rfl rfl) rfl ?_
    refine OW.nil ?_
    (repeat (first | refine CW.seq ?_ | refine QW.then_n ?_ | refine CW.block ?_ | refine CW.ret ?_ | refine CW.skip ?_ | refine CW.exit ?_ | refine QW.then_x ?_ | refine QW.then_r ?_ | refine QW.block_n ?_ | refine QW.block_xe ?_ | refine QW.block_xn rfl ?_ | refine QW.block_r ?_))
    (first | refine CW.cond_t rfl ?_ | refine CW.cond_f rfl ?_ | refine CW.cond_p rfl (fun hlt => ?_) (fun hlt => ?_) | refine CW.cond_np rfl (fun hlt => ?_) (fun hlt => ?_) | refine CW.cond rfl (fun hlt => ?_) (fun hlt => ?_))
    · have hi2 : i < 16 := by omega
      (repeat (first | refine CW.seq ?_ | refine QW.then_n ?_ | refine CW.block ?_ | refine CW.ret ?_ | refine CW.skip ?_ | refine CW.exit ?_ | refine QW.then_x ?_ | refine QW.then_r ?_ | refine QW.block_n ?_ | refine QW.block_xe ?_ | refine QW.block_xn rfl ?_ | refine QW.block_r ?_))
      refine CW.region ?_
      refine OW.rv (RV.move rfl) rfl ?_
      refine OW.rv (RV.assign rfl) rfl ?_
      refine OW.nil ?_
      (repeat (first | refine CW.seq ?_ | refine QW.then_n ?_ | refine CW.block ?_ | refine CW.ret ?_ | refine CW.skip ?_ | refine CW.exit ?_ | refine QW.then_x ?_ | refine QW.then_r ?_ | refine QW.block_n ?_ | refine QW.block_xe ?_ | refine QW.block_xn rfl ?_ | refine QW.block_r ?_))
      (repeat (first | refine CW.seq ?_ | refine QW.then_n ?_ | refine CW.block ?_ | refine CW.ret ?_ | refine CW.skip ?_ | refine CW.exit ?_ | refine QW.then_x ?_ | refine QW.then_r ?_ | refine QW.block_n ?_ | refine QW.block_xe ?_ | refine QW.block_xn rfl ?_ | refine QW.block_r ?_))
      refine CW.region ?_
      refine OW.rv (RV.move rfl) rfl ?_
      refine OW.rv (RV.move rfl) rfl ?_
      refine OW.rv (RV.mul rfl rfl (by omega)) rfl ?_
      refine OW.rv (RV.move rfl) rfl ?_
      refine OW.rv (RV.mul rfl rfl (by omega)) rfl ?_
      refine OW.rv (RV.add rfl rfl (by omega)) rfl ?_
      refine OW.rv (RV.cut_both (4 * i) (4 * i + 4) rfl rfl rfl (by first | rfl | omega) (by first | rfl | omega) rfl rfl (by omega) (by omega)) rfl ?_
      refine OW.rv (RV.len rfl rfl) rfl ?_
      refine OW.rv (RV.move rfl) rfl ?_
      refine OW.nil ?_
      (repeat (first | refine CW.seq ?_ | refine QW.then_n ?_ | refine CW.block ?_ | refine CW.ret ?_ | refine CW.skip ?_ | refine CW.exit ?_ | refine QW.then_x ?_ | refine QW.then_r ?_ | refine QW.block_n ?_ | refine QW.block_xe ?_ | refine QW.block_xn rfl ?_ | refine QW.block_r ?_))
      have hsub : Mem.Says w0 M (fun w => Rd w (subA A ca (4 * i) 1) ((u8s bs).drop (4 * i * 1))) := fun w m => (hA w m).sub (by rw [u8s_length]; omega)
      have sB : (subA A ca (4 * i) 1).isSome = true := (hsub w1 m1).1 (fun e => by have := congrArg List.length e; rw [List.length_drop, u8s_length] at this; simp only [List.length_nil] at this; omega)
      refine CW.loop (σ := Nat) (fun j => j ≤ 4) (fun j => [(0, .slice A 64 ca), (2, ptr (some b2) 0), (3, ptr (some b3) 0), (4, .int .i64 (i : Int)), (12, .int .i64 (i : Int)), (21, .slice (subA A ca (4 * i) 1) (4 * i + 4 - 4 * i) (ca - 4 * i)), (22, .int .i64 ((4 * i + 4 - 4 * i : Nat) : Int)), (23, .int .i64 (j : Int))])
        (fun j => (some b3, blk (u32s (firstW bs i ++ pw bs i j :: List.replicate (63 - i) 0#32)) 80) :: (some b2, blk (u32s (List.replicate 64 0#32)) 80) :: M) (fun j => 4 - j) 0 (by omega) ⟨rfl, rfl, rfl, rfl, rfl, rfl, rfl, rfl, trivial⟩ (fun _ m => by
          have e : List.replicate (64 - i) 0#32 = 0#32 :: List.replicate (63 - i) 0#32 := by rw [show 64 - i = (63 - i) + 1 by omega, List.replicate_succ]
          rw [e] at m; exact m) ?_
      intro j hj
      (repeat (first | refine CW.seq ?_ | refine QW.then_n ?_ | refine CW.block ?_ | refine CW.ret ?_ | refine CW.skip ?_ | refine CW.exit ?_ | refine QW.then_x ?_ | refine QW.then_r ?_ | refine QW.block_n ?_ | refine QW.block_xe ?_ | refine QW.block_xn rfl ?_ | refine QW.block_r ?_))
      refine CW.region ?_
      refine OW.rv (RV.lss rfl rfl) rfl ?_
      refine OW.nil ?_
      (repeat (first | refine CW.seq ?_ | refine QW.then_n ?_ | refine CW.block ?_ | refine CW.ret ?_ | refine CW.skip ?_ | refine CW.exit ?_ | refine QW.then_x ?_ | refine QW.then_r ?_ | refine QW.block_n ?_ | refine QW.block_xe ?_ | refine QW.block_xn rfl ?_ | refine QW.block_r ?_))
      (first | refine CW.cond_t rfl ?_ | refine CW.cond_f rfl ?_ | refine CW.cond_p rfl (fun hjlt => ?_) (fun hjlt => ?_) | refine CW.cond_np rfl (fun hjlt => ?_) (fun hjlt => ?_) | refine CW.cond rfl (fun hjlt => ?_) (fun hjlt => ?_))
      · have hj2 : j < 4 := by omega
        have l1 : Mem.Says w0 M (fun w => w.cell? (((subA A ca (4 * i) 1).getD default).add j) = some (U8 (bs.getD (4 * i + j) 0#8))) := fun w m => (hsub w m).cell (by rw [List.getElem?_drop, Nat.mul_one]; exact u8s_get (by omega))
        have hll : (firstW bs i ++ pw bs i j :: List.replicate (63 - i) 0#32).length = 64 := by simp; omega
        have g1 : (u32s (firstW bs i ++ pw bs i j :: List.replicate (63 - i) 0#32))[0 + i]? = some (U32 (pw bs i j)) := by
          rw [Nat.zero_add, u32s, List.getElem?_map, List.getElem?_append_right (by simp)]; simp
        have hl2 : 0 + i < (u32s (firstW bs i ++ pw bs i j :: List.replicate (63 - i) 0#32)).length := by rw [u32s_length, hll]; omega
        (repeat (first | refine CW.seq ?_ | refine QW.then_n ?_ | refine CW.block ?_ | refine CW.ret ?_ | refine CW.skip ?_ | refine CW.exit ?_ | refine QW.then_x ?_ | refine QW.then_r ?_ | refine QW.block_n ?_ | refine QW.block_xe ?_ | refine QW.block_xn rfl ?_ | refine QW.block_r ?_))
        refine CW.region ?_
        (first | refine OW.rv (RV.idx_o _ rfl rfl rfl rfl rfl (by first | rfl | assumption) (by omega)) rfl ?_ | refine OW.rv (RV.idx_r _ rfl rfl rfl rfl rfl (by first | rfl | assumption) (by omega)) rfl ?_ | refine OW.rv (RV.idx_oz rfl rfl (by omega) rfl rfl (by first | rfl | assumption) (by omega)) rfl ?_ | refine OW.rv (RV.idx_rz rfl rfl (by omega) rfl rfl (by first | rfl | assumption) (by omega)) rfl ?_)
        (first | refine OW.rv (RV.load rfl (by (repeat (first | exact List.Mem.head _ | assumption | refine List.Mem.tail _ ?_)); done) (by first | rfl | assumption) rfl rfl (by first | rfl | assumption)) rfl ?_ | refine OW.rv (RV.load_at rfl rfl rfl (by (repeat (first | assumption | refine Mem.Says.cons ?_)); done)) rfl ?_)
        refine OW.rv (RV.assign rfl) rfl ?_
        refine OW.nil ?_
        (repeat (first | refine CW.seq ?_ | refine QW.then_n ?_ | refine CW.block ?_ | refine CW.ret ?_ | refine CW.skip ?_ | refine CW.exit ?_ | refine QW.then_x ?_ | refine QW.then_r ?_ | refine QW.block_n ?_ | refine QW.block_xe ?_ | refine QW.block_xn rfl ?_ | refine QW.block_r ?_))
        (repeat (first | refine CW.seq ?_ | refine QW.then_n ?_ | refine CW.block ?_ | refine CW.ret ?_ | refine CW.skip ?_ | refine CW.exit ?_ | refine QW.then_x ?_ | refine QW.then_r ?_ | refine QW.block_n ?_ | refine QW.block_xe ?_ | refine QW.block_xn rfl ?_ | refine QW.block_r ?_))
        refine CW.region ?_
        refine OW.rv (RV.move rfl) rfl ?_
        refine OW.rv (RV.move rfl) rfl ?_
        (first | refine OW.rv (RV.idx_a _ rfl rfl rfl rfl rfl (by omega)) rfl ?_ | refine OW.rv (RV.idx_az rfl rfl (by omega) rfl rfl (by omega)) rfl ?_)
        (first | refine OW.rv (RV.load rfl (by (repeat (first | exact List.Mem.head _ | assumption | refine List.Mem.tail _ ?_)); done) (by first | rfl | assumption) rfl rfl (by first | rfl | assumption)) rfl ?_ | refine OW.rv (RV.load_at rfl rfl rfl (by (repeat (first | assumption | refine Mem.Says.cons ?_)); done)) rfl ?_)
        (first | refine OW.rv (RV.shl32 rfl (by first | rfl | exact lit32 _ rfl) rfl rfl) rfl ?_ | refine OW.rv (RV.shl32_i rfl (by first | rfl | exact lit32 _ rfl) rfl (by omega)) rfl ?_)
        refine OW.rv (RV.move rfl) rfl ?_
        refine OW.rv (RV.conv8_32 rfl (by first | rfl | exact lit8 _ rfl) rfl rfl) rfl ?_
        refine OW.rv (RV.or32 rfl (by first | rfl | exact lit32 _ rfl) rfl (by first | rfl | exact lit32 _ rfl)) rfl ?_
        (first | refine OW.rv (RV.idx_a _ rfl rfl rfl rfl rfl (by omega)) rfl ?_ | refine OW.rv (RV.idx_az rfl rfl (by omega) rfl rfl (by omega)) rfl ?_)
        (first | refine OW.sv (SV.store rfl (by first | rfl | assumption) rfl rfl rfl (by first | assumption | (simp; done) | (simp; omega) | omega)) ?_ | (refine OW.rot1 ?_; refine OW.sv (SV.store rfl (by first | rfl | assumption) rfl rfl rfl (by first | assumption | (simp; done) | (simp; omega) | omega)) ?_) | (refine OW.rot2 ?_; refine OW.sv (SV.store rfl (by first | rfl | assumption) rfl rfl rfl (by first | assumption | (simp; done) | (simp; omega) | omega)) ?_) | (refine OW.rot3 ?_; refine OW.sv (SV.store rfl (by first | rfl | assumption) rfl rfl rfl (by first | assumption | (simp; done) | (simp; omega) | omega)) ?_) | (refine OW.rot4 ?_; refine OW.sv (SV.store rfl (by first | rfl | assumption) rfl rfl rfl (by first | assumption | (simp; done) | (simp; omega) | omega)) ?_))
        refine OW.nil ?_
        (repeat (first | refine CW.seq ?_ | refine QW.then_n ?_ | refine CW.block ?_ | refine CW.ret ?_ | refine CW.skip ?_ | refine CW.exit ?_ | refine QW.then_x ?_ | refine QW.then_r ?_ | refine QW.block_n ?_ | refine QW.block_xe ?_ | refine QW.block_xn rfl ?_ | refine QW.block_r ?_))
        (repeat (first | refine CW.seq ?_ | refine QW.then_n ?_ | refine CW.block ?_ | refine CW.ret ?_ | refine CW.skip ?_ | refine CW.exit ?_ | refine QW.then_x ?_ | refine QW.then_r ?_ | refine QW.block_n ?_ | refine QW.block_xe ?_ | refine QW.block_xn rfl ?_ | refine QW.block_r ?_))
        refine CW.region ?_
        refine OW.rv (RV.add rfl rfl (by omega)) rfl ?_
        refine OW.rv (RV.move rfl) rfl ?_
        refine OW.nil ?_
        (repeat (first | refine CW.seq ?_ | refine QW.then_n ?_ | refine CW.block ?_ | refine CW.ret ?_ | refine CW.skip ?_ | refine CW.exit ?_ | refine QW.then_x ?_ | refine QW.then_r ?_ | refine QW.block_n ?_ | refine QW.block_xe ?_ | refine QW.block_xn rfl ?_ | refine QW.block_r ?_))
        refine QW.again (j + 1) (by omega) (by omega) ⟨rfl, rfl, rfl, rfl, rfl, rfl, rfl, rfl, trivial⟩ (fun _ m => ?_)
        have e : (u32s (firstW bs i ++ pw bs i j :: List.replicate (63 - i) 0#32)).set (0 + i) (U32 (pw bs i j <<< (8#64).toNat ||| (bs.getD (4 * i + j) 0#8).setWidth 32)) = u32s (firstW bs i ++ pw bs i (j + 1) :: List.replicate (63 - i) 0#32) := by
          rw [Nat.zero_add, u32s_set', set_mid _ _ _ _ (firstW_length bs i)]; rfl
        rw [← e]; exact m
      · have hj4 : j = 4 := by omega
        subst hj4
        (repeat (first | refine CW.seq ?_ | refine QW.then_n ?_ | refine CW.block ?_ | refine CW.ret ?_ | refine CW.skip ?_ | refine CW.exit ?_ | refine QW.then_x ?_ | refine QW.then_r ?_ | refine QW.block_n ?_ | refine QW.block_xe ?_ | refine QW.block_xn rfl ?_ | refine QW.block_r ?_))
        refine CW.region ?_
        refine OW.rv (RV.add rfl rfl (by omega)) rfl ?_
        refine OW.rv (RV.move rfl) rfl ?_
        refine OW.nil ?_
        (repeat (first | refine CW.seq ?_ | refine QW.then_n ?_ | refine CW.block ?_ | refine CW.ret ?_ | refine CW.skip ?_ | refine CW.exit ?_ | refine QW.then_x ?_ | refine QW.then_r ?_ | refine QW.block_n ?_ | refine QW.block_xe ?_ | refine QW.block_xn rfl ?_ | refine QW.block_r ?_))
        refine QW.again (i + 1) (by omega) (by omega) ⟨rfl, rfl, rfl, rfl, trivial⟩ (fun _ m => ?_)
        rw [firstW_succ, List.append_assoc, show 64 - (i + 1) = 63 - i by omega]; exact m
    · have hi2 : i = 16 := by omega
      subst hi2
      (repeat (first | refine CW.seq ?_ | refine QW.then_n ?_ | refine CW.block ?_ | refine CW.ret ?_ | refine CW.skip ?_ | refine CW.exit ?_ | refine QW.then_x ?_ | refine QW.then_r ?_ | refine QW.block_n ?_ | refine QW.block_xe ?_ | refine QW.block_xn rfl ?_ | refine QW.block_r ?_))
      refine CW.region ?_
      refine OW.rv (RV.assign rfl) rfl ?_
      refine OW.nil ?_
      (repeat (first | refine CW.seq ?_ | refine QW.then_n ?_ | refine CW.block ?_ | refine CW.ret ?_ | refine CW.skip ?_ | refine CW.exit ?_ | refine QW.then_x ?_ | refine QW.then_r ?_ | refine QW.block_n ?_ | refine QW.block_xe ?_ | refine QW.block_xn rfl ?_ | refine QW.block_r ?_))
      refine CW.loop (σ := Nat) (fun k => k ≤ 48) (fun k => [(2, ptr (some b2) 0), (3, ptr (some b3) 0), (7, .int .i64 ((16 + k : Nat) : Int))])
        (fun k => (some b3, blk (u32s (wTo bs k ++ List.replicate (48 - k) 0#32)) 80) :: (some b2, blk (u32s (List.replicate 64 0#32)) 80) :: M) (fun k => 48 - k) 0 (by omega) ⟨rfl, rfl, rfl, trivial⟩ (fun _ m => m) ?_
      intro k hk
      (repeat (first | refine CW.seq ?_ | refine QW.then_n ?_ | refine CW.block ?_ | refine CW.ret ?_ | refine CW.skip ?_ | refine CW.exit ?_ | refine QW.then_x ?_ | refine QW.then_r ?_ | refine QW.block_n ?_ | refine QW.block_xe ?_ | refine QW.block_xn rfl ?_ | refine QW.block_r ?_))
      refine CW.region ?_
      refine OW.rv (RV.move rfl) rfl ?_
      refine OW.rv (RV.lss rfl rfl) rfl ?_
      refine OW.nil ?_
      (repeat (first | refine CW.seq ?_ | refine QW.then_n ?_ | refine CW.block ?_ | refine CW.ret ?_ | refine CW.skip ?_ | refine CW.exit ?_ | refine QW.then_x ?_ | refine QW.then_r ?_ | refine QW.block_n ?_ | refine QW.block_xe ?_ | refine QW.block_xn rfl ?_ | refine QW.block_r ?_))
      (first | refine CW.cond_t rfl ?_ | refine CW.cond_f rfl ?_ | refine CW.cond_p rfl (fun hklt => ?_) (fun hklt => ?_) | refine CW.cond_np rfl (fun hklt => ?_) (fun hklt => ?_) | refine CW.cond rfl (fun hklt => ?_) (fun hklt => ?_))
      · have hk2 : k < 48 := by omega
        have hwl := wTo_length bs k
        have gt : ∀ p : Nat, p ≤ 16 → 1 ≤ p → (u32s (wTo bs k ++ List.replicate (48 - k) 0#32))[0 + (((16 + k : Nat) : Int) - (p : Int)).toNat]? = some (U32 ((wTo bs k).getD (16 + k - p) 0#32)) := fun p hp hp1 => by
          rw [show 0 + (((16 + k : Nat) : Int) - (p : Int)).toNat = 16 + k - p by omega, u32s_get (by simp; omega), getD_left (by omega)]
        have g15 := gt 15 (by omega) (by omega)
        have g2 := gt 2 (by omega) (by omega)
        have g7 := gt 7 (by omega) (by omega)
        have g16 := gt 16 (by omega) (by omega)
        have hl2 : 0 + (16 + k) < (u32s (wTo bs k ++ List.replicate (48 - k) 0#32)).length := by simp; omega
        (repeat (first | refine CW.seq ?_ | refine QW.then_n ?_ | refine CW.block ?_ | refine CW.ret ?_ | refine CW.skip ?_ | refine CW.exit ?_ | refine QW.then_x ?_ | refine QW.then_r ?_ | refine QW.block_n ?_ | refine QW.block_xe ?_ | refine QW.block_xn rfl ?_ | refine QW.block_r ?_))
        refine CW.draws mixed (by kernel_rfl) ?_
        refine DW.rv (RV.move rfl) rfl ?_
        refine DW.rv (RV.sub rfl rfl (by omega)) rfl ?_
        (first | refine DW.rv (RV.idx_a _ rfl rfl rfl rfl rfl (by omega)) rfl ?_ | refine DW.rv (RV.idx_az rfl rfl (by omega) rfl rfl (by omega)) rfl ?_)
        (first | refine DW.rv (RV.load rfl (by (repeat (first | exact List.Mem.head _ | assumption | refine List.Mem.tail _ ?_)); done) (by first | rfl | assumption) rfl rfl (by first | rfl | assumption)) rfl ?_ | refine DW.rv (RV.load_at rfl rfl rfl (by (repeat (first | assumption | refine Mem.Says.cons ?_)); done)) rfl ?_)
        refine DW.rv (RV.move rfl) rfl ?_
        refine DW.rv (RV.sub rfl rfl (by omega)) rfl ?_
        (first | refine DW.rv (RV.idx_a _ rfl rfl rfl rfl rfl (by omega)) rfl ?_ | refine DW.rv (RV.idx_az rfl rfl (by omega) rfl rfl (by omega)) rfl ?_)
        (first | refine DW.rv (RV.load rfl (by (repeat (first | exact List.Mem.head _ | assumption | refine List.Mem.tail _ ?_)); done) (by first | rfl | assumption) rfl rfl (by first | rfl | assumption)) rfl ?_ | refine DW.rv (RV.load_at rfl rfl rfl (by (repeat (first | assumption | refine Mem.Says.cons ?_)); done)) rfl ?_)
        refine DW.rv (RV.assign rfl) rfl ?_
        refine DW.rv (RV.assign rfl) rfl ?_
        refine DW.nil ?_
        (repeat (first | refine CW.seq ?_ | refine QW.then_n ?_ | refine CW.block ?_ | refine CW.ret ?_ | refine CW.skip ?_ | refine CW.exit ?_ | refine QW.then_x ?_ | refine QW.then_r ?_ | refine QW.block_n ?_ | refine QW.block_xe ?_ | refine QW.block_xn rfl ?_ | refine QW.block_r ?_))
        (repeat (first | refine CW.seq ?_ | refine QW.then_n ?_ | refine CW.block ?_ | refine CW.ret ?_ | refine CW.skip ?_ | refine CW.exit ?_ | refine QW.then_x ?_ | refine QW.then_r ?_ | refine QW.block_n ?_ | refine QW.block_xe ?_ | refine QW.block_xn rfl ?_ | refine QW.block_r ?_))
        refine CW.region ?_
        refine OW.rv (RV.move rfl) rfl ?_
        refine OW.call Tryd.call51 rfl (rotl_does w0 _ _ (-7) 7 (by decide) (by decide)) rfl (fun u hu => ?_)
        refine OW.rv (RV.move rfl) rfl ?_
        refine OW.call Tryd.call51 rfl (rotl_does w0 _ _ (-18) 18 (by decide) (by decide)) rfl (fun u hu => ?_)
        refine OW.rv (RV.xor32 rfl (by first | rfl | exact lit32 _ rfl) rfl (by first | rfl | exact lit32 _ rfl)) rfl ?_
        refine OW.rv (RV.move rfl) rfl ?_
        (first | refine OW.rv (RV.shr32 rfl (by first | rfl | exact lit32 _ rfl) rfl rfl) rfl ?_ | refine OW.rv (RV.shr32_i rfl (by first | rfl | exact lit32 _ rfl) rfl (by omega)) rfl ?_)
        refine OW.rv (RV.xor32 rfl (by first | rfl | exact lit32 _ rfl) rfl (by first | rfl | exact lit32 _ rfl)) rfl ?_
        refine OW.rv (RV.assign rfl) rfl ?_
        refine OW.nil ?_
        (repeat (first | refine CW.seq ?_ | refine QW.then_n ?_ | refine CW.block ?_ | refine CW.ret ?_ | refine CW.skip ?_ | refine CW.exit ?_ | refine QW.then_x ?_ | refine QW.then_r ?_ | refine QW.block_n ?_ | refine QW.block_xe ?_ | refine QW.block_xn rfl ?_ | refine QW.block_r ?_))
        (repeat (first | refine CW.seq ?_ | refine QW.then_n ?_ | refine CW.block ?_ | refine CW.ret ?_ | refine CW.skip ?_ | refine CW.exit ?_ | refine QW.then_x ?_ | refine QW.then_r ?_ | refine QW.block_n ?_ | refine QW.block_xe ?_ | refine QW.block_xn rfl ?_ | refine QW.block_r ?_))
        refine CW.region ?_
        refine OW.rv (RV.move rfl) rfl ?_
        refine OW.call Tryd.call51 rfl (rotl_does w0 _ _ (-17) 17 (by decide) (by decide)) rfl (fun u hu => ?_)
        refine OW.rv (RV.move rfl) rfl ?_
        refine OW.call Tryd.call51 rfl (rotl_does w0 _ _ (-19) 19 (by decide) (by decide)) rfl (fun u hu => ?_)
        refine OW.rv (RV.xor32 rfl (by first | rfl | exact lit32 _ rfl) rfl (by first | rfl | exact lit32 _ rfl)) rfl ?_
        refine OW.rv (RV.move rfl) rfl ?_
        (first | refine OW.rv (RV.shr32 rfl (by first | rfl | exact lit32 _ rfl) rfl rfl) rfl ?_ | refine OW.rv (RV.shr32_i rfl (by first | rfl | exact lit32 _ rfl) rfl (by omega)) rfl ?_)
        refine OW.rv (RV.xor32 rfl (by first | rfl | exact lit32 _ rfl) rfl (by first | rfl | exact lit32 _ rfl)) rfl ?_
        refine OW.rv (RV.assign rfl) rfl ?_
        refine OW.nil ?_
        (repeat (first | refine CW.seq ?_ | refine QW.then_n ?_ | refine CW.block ?_ | refine CW.ret ?_ | refine CW.skip ?_ | refine CW.exit ?_ | refine QW.then_x ?_ | refine QW.then_r ?_ | refine QW.block_n ?_ | refine QW.block_xe ?_ | refine QW.block_xn rfl ?_ | refine QW.block_r ?_))
        (repeat (first | refine CW.seq ?_ | refine QW.then_n ?_ | refine CW.block ?_ | refine CW.ret ?_ | refine CW.skip ?_ | refine CW.exit ?_ | refine QW.then_x ?_ | refine QW.then_r ?_ | refine QW.block_n ?_ | refine QW.block_xe ?_ | refine QW.block_xn rfl ?_ | refine QW.block_r ?_))
        refine CW.drawsT 15 mixed (by kernel_rfl) ?_
        refine TW.rv (RV.move rfl) rfl ?_
        refine TW.rv (RV.move rfl) rfl ?_
        refine TW.rv (RV.move rfl) rfl ?_
        refine TW.rv (RV.sub rfl rfl (by omega)) rfl ?_
        (first | refine TW.rv (RV.idx_a _ rfl rfl rfl rfl rfl (by omega)) rfl ?_ | refine TW.rv (RV.idx_az rfl rfl (by omega) rfl rfl (by omega)) rfl ?_)
        (first | refine TW.rv (RV.load rfl (by (repeat (first | exact List.Mem.head _ | assumption | refine List.Mem.tail _ ?_)); done) (by first | rfl | assumption) rfl rfl (by first | rfl | assumption)) rfl ?_ | refine TW.rv (RV.load_at rfl rfl rfl (by (repeat (first | assumption | refine Mem.Says.cons ?_)); done)) rfl ?_)
        refine TW.rv (RV.add32 rfl (by first | rfl | exact lit32 _ rfl) rfl (by first | rfl | exact lit32 _ rfl)) rfl ?_
        refine TW.rv (RV.move rfl) rfl ?_
        refine TW.rv (RV.add32 rfl (by first | rfl | exact lit32 _ rfl) rfl (by first | rfl | exact lit32 _ rfl)) rfl ?_
        refine TW.rv (RV.move rfl) rfl ?_
        refine TW.rv (RV.sub rfl rfl (by omega)) rfl ?_
        (first | refine TW.rv (RV.idx_a _ rfl rfl rfl rfl rfl (by omega)) rfl ?_ | refine TW.rv (RV.idx_az rfl rfl (by omega) rfl rfl (by omega)) rfl ?_)
        (first | refine TW.rv (RV.load rfl (by (repeat (first | exact List.Mem.head _ | assumption | refine List.Mem.tail _ ?_)); done) (by first | rfl | assumption) rfl rfl (by first | rfl | assumption)) rfl ?_ | refine TW.rv (RV.load_at rfl rfl rfl (by (repeat (first | assumption | refine Mem.Says.cons ?_)); done)) rfl ?_)
        refine TW.rv (RV.add32 rfl (by first | rfl | exact lit32 _ rfl) rfl (by first | rfl | exact lit32 _ rfl)) rfl ?_
        (first | refine TW.rv (RV.idx_a _ rfl rfl rfl rfl rfl (by omega)) rfl ?_ | refine TW.rv (RV.idx_az rfl rfl (by omega) rfl rfl (by omega)) rfl ?_)
        refine TW.nil ?_
        (first | refine OW.sv (SV.store rfl (by first | rfl | assumption) rfl rfl rfl (by first | assumption | (simp; done) | (simp; omega) | omega)) ?_ | (refine OW.rot1 ?_; refine OW.sv (SV.store rfl (by first | rfl | assumption) rfl rfl rfl (by first | assumption | (simp; done) | (simp; omega) | omega)) ?_) | (refine OW.rot2 ?_; refine OW.sv (SV.store rfl (by first | rfl | assumption) rfl rfl rfl (by first | assumption | (simp; done) | (simp; omega) | omega)) ?_) | (refine OW.rot3 ?_; refine OW.sv (SV.store rfl (by first | rfl | assumption) rfl rfl rfl (by first | assumption | (simp; done) | (simp; omega) | omega)) ?_) | (refine OW.rot4 ?_; refine OW.sv (SV.store rfl (by first | rfl | assumption) rfl rfl rfl (by first | assumption | (simp; done) | (simp; omega) | omega)) ?_))
        refine OW.nil ?_
        (repeat (first | refine CW.seq ?_ | refine QW.then_n ?_ | refine CW.block ?_ | refine CW.ret ?_ | refine CW.skip ?_ | refine CW.exit ?_ | refine QW.then_x ?_ | refine QW.then_r ?_ | refine QW.block_n ?_ | refine QW.block_xe ?_ | refine QW.block_xn rfl ?_ | refine QW.block_r ?_))
        (repeat (first | refine CW.seq ?_ | refine QW.then_n ?_ | refine CW.block ?_ | refine CW.ret ?_ | refine CW.skip ?_ | refine CW.exit ?_ | refine QW.then_x ?_ | refine QW.then_r ?_ | refine QW.block_n ?_ | refine QW.block_xe ?_ | refine QW.block_xn rfl ?_ | refine QW.block_r ?_))
        refine CW.region ?_
        refine OW.rv (RV.move rfl) rfl ?_
        refine OW.rv (RV.add rfl rfl (by omega)) rfl ?_
        refine OW.rv (RV.assign rfl) rfl ?_
        refine OW.nil ?_
        (repeat (first | refine CW.seq ?_ | refine QW.then_n ?_ | refine CW.block ?_ | refine CW.ret ?_ | refine CW.skip ?_ | refine CW.exit ?_ | refine QW.then_x ?_ | refine QW.then_r ?_ | refine QW.block_n ?_ | refine QW.block_xe ?_ | refine QW.block_xn rfl ?_ | refine QW.block_r ?_))
        refine QW.again (k + 1) (by omega) (by omega) ⟨rfl, rfl, rfl, trivial⟩ (fun _ m => ?_)
        have e : (u32s (wTo bs k ++ List.replicate (48 - k) 0#32)).set (0 + (16 + k)) (U32 (wnext (wTo bs k) (16 + k))) = u32s (wTo bs (k + 1) ++ List.replicate (48 - (k + 1)) 0#32) := by
          rw [Nat.zero_add, u32s_set', show 48 - k = (48 - (k + 1)) + 1 by omega, List.replicate_succ, set_mid _ _ _ _ hwl]
          simp [wTo]
        rw [← e]; exact m
      · have hk2 : k = 48 := by omega
        subst hk2
        refine CW.mem (M' := (some b3, blk (u32s (wTo bs 48)) 80) :: (some b2, blk (u32s (List.replicate 64 0#32)) 80) :: M) (fun _ m => by simpa using m) ?_
        have hwl : (wTo bs 48).length = 64 := wTo_length bs 48
        generalize wTo bs 48 = W at hwl ⊢
        (repeat (first | refine CW.seq ?_ | refine QW.then_n ?_ | refine CW.block ?_ | refine CW.ret ?_ | refine CW.skip ?_ | refine CW.exit ?_ | refine QW.then_x ?_ | refine QW.then_r ?_ | refine QW.block_n ?_ | refine QW.block_xe ?_ | refine QW.block_xn rfl ?_ | refine QW.block_r ?_))
        refine CW.region ?_
        (first | refine OW.rv (RV.loadW rfl (by (repeat (first | exact List.Mem.head _ | assumption | refine List.Mem.tail _ ?_)); done) (by first | rfl | assumption) rfl rfl rfl (by first | assumption | exact (u32s_length _).trans (List.length_replicate ..) | exact (u32s_length _).trans (by assumption) | rfl | (simp; done) | (simp [*]; done) | (simp [*]; rfl))) rfl ?_ | refine OW.rv (RV.loadAo rfl (by (repeat (first | exact List.Mem.head _ | assumption | refine List.Mem.tail _ ?_)); done) (by first | rfl | assumption) rfl rfl rfl (by assumption) (by first | assumption | exact (u32s_length _).trans (List.length_replicate ..) | exact (u32s_length _).trans (by assumption) | rfl | (simp; done) | (simp [*]; done) | (simp [*]; rfl))) rfl ?_ | refine OW.rv (RV.loadAs rfl rfl rfl rfl (by (repeat (first | assumption | refine Mem.Says.cons ?_)); done) (by first | assumption | exact (u32s_length _).trans (List.length_replicate ..) | exact (u32s_length _).trans (by assumption) | rfl | (simp; done) | (simp [*]; done) | (simp [*]; rfl))) rfl ?_)
        (first | (first | refine OW.sv (SV.storeW rfl (by first | rfl | assumption) rfl (by first | exact u32s_one _ | assumption) rfl (by first | assumption | exact (u32s_length _).trans (List.length_replicate ..) | exact (u32s_length _).trans (by assumption) | rfl | (simp; done) | (simp [*]; done) | (simp [*]; rfl)) (by first | assumption | exact (u32s_length _).trans (List.length_replicate ..) | exact (u32s_length _).trans (by assumption) | rfl | (simp; done) | (simp [*]; done) | (simp [*]; rfl))) ?_ | refine OW.sv (SV.storeAs rfl (by first | rfl | assumption) rfl (by first | exact u32s_one _ | assumption) rfl (by first | assumption | exact (u32s_length _).trans (List.length_replicate ..) | exact (u32s_length _).trans (by assumption) | rfl | (simp; done) | (simp [*]; done) | (simp [*]; rfl)) (by first | assumption | (simp; done) | (simp; omega) | omega)) ?_) | (refine OW.rot1 ?_; (first | refine OW.sv (SV.storeW rfl (by first | rfl | assumption) rfl (by first | exact u32s_one _ | assumption) rfl (by first | assumption | exact (u32s_length _).trans (List.length_replicate ..) | exact (u32s_length _).trans (by assumption) | rfl | (simp; done) | (simp [*]; done) | (simp [*]; rfl)) (by first | assumption | exact (u32s_length _).trans (List.length_replicate ..) | exact (u32s_length _).trans (by assumption) | rfl | (simp; done) | (simp [*]; done) | (simp [*]; rfl))) ?_ | refine OW.sv (SV.storeAs rfl (by first | rfl | assumption) rfl (by first | exact u32s_one _ | assumption) rfl (by first | assumption | exact (u32s_length _).trans (List.length_replicate ..) | exact (u32s_length _).trans (by assumption) | rfl | (simp; done) | (simp [*]; done) | (simp [*]; rfl)) (by first | assumption | (simp; done) | (simp; omega) | omega)) ?_)) | (refine OW.rot2 ?_; (first | refine OW.sv (SV.storeW rfl (by first | rfl | assumption) rfl (by first | exact u32s_one _ | assumption) rfl (by first | assumption | exact (u32s_length _).trans (List.length_replicate ..) | exact (u32s_length _).trans (by assumption) | rfl | (simp; done) | (simp [*]; done) | (simp [*]; rfl)) (by first | assumption | exact (u32s_length _).trans (List.length_replicate ..) | exact (u32s_length _).trans (by assumption) | rfl | (simp; done) | (simp [*]; done) | (simp [*]; rfl))) ?_ | refine OW.sv (SV.storeAs rfl (by first | rfl | assumption) rfl (by first | exact u32s_one _ | assumption) rfl (by first | assumption | exact (u32s_length _).trans (List.length_replicate ..) | exact (u32s_length _).trans (by assumption) | rfl | (simp; done) | (simp [*]; done) | (simp [*]; rfl)) (by first | assumption | (simp; done) | (simp; omega) | omega)) ?_)) | (refine OW.rot3 ?_; (first | refine OW.sv (SV.storeW rfl (by first | rfl | assumption) rfl (by first | exact u32s_one _ | assumption) rfl (by first | assumption | exact (u32s_length _).trans (List.length_replicate ..) | exact (u32s_length _).trans (by assumption) | rfl | (simp; done) | (simp [*]; done) | (simp [*]; rfl)) (by first | assumption | exact (u32s_length _).trans (List.length_replicate ..) | exact (u32s_length _).trans (by assumption) | rfl | (simp; done) | (simp [*]; done) | (simp [*]; rfl))) ?_ | refine OW.sv (SV.storeAs rfl (by first | rfl | assumption) rfl (by first | exact u32s_one _ | assumption) rfl (by first | assumption | exact (u32s_length _).trans (List.length_replicate ..) | exact (u32s_length _).trans (by assumption) | rfl | (simp; done) | (simp [*]; done) | (simp [*]; rfl)) (by first | assumption | (simp; done) | (simp; omega) | omega)) ?_)) | (refine OW.rot4 ?_; (first | refine OW.sv (SV.storeW rfl (by first | rfl | assumption) rfl (by first | exact u32s_one _ | assumption) rfl (by first | assumption | exact (u32s_length _).trans (List.length_replicate ..) | exact (u32s_length _).trans (by assumption) | rfl | (simp; done) | (simp [*]; done) | (simp [*]; rfl)) (by first | assumption | exact (u32s_length _).trans (List.length_replicate ..) | exact (u32s_length _).trans (by assumption) | rfl | (simp; done) | (simp [*]; done) | (simp [*]; rfl))) ?_ | refine OW.sv (SV.storeAs rfl (by first | rfl | assumption) rfl (by first | exact u32s_one _ | assumption) rfl (by first | assumption | exact (u32s_length _).trans (List.length_replicate ..) | exact (u32s_length _).trans (by assumption) | rfl | (simp; done) | (simp [*]; done) | (simp [*]; rfl)) (by first | assumption | (simp; done) | (simp; omega) | omega)) ?_)) | (refine OW.rot5 ?_; (first | refine OW.sv (SV.storeW rfl (by first | rfl | assumption) rfl (by first | exact u32s_one _ | assumption) rfl (by first | assumption | exact (u32s_length _).trans (List.length_replicate ..) | exact (u32s_length _).trans (by assumption) | rfl | (simp; done) | (simp [*]; done) | (simp [*]; rfl)) (by first | assumption | exact (u32s_length _).trans (List.length_replicate ..) | exact (u32s_length _).trans (by assumption) | rfl | (simp; done) | (simp [*]; done) | (simp [*]; rfl))) ?_ | refine OW.sv (SV.storeAs rfl (by first | rfl | assumption) rfl (by first | exact u32s_one _ | assumption) rfl (by first | assumption | exact (u32s_length _).trans (List.length_replicate ..) | exact (u32s_length _).trans (by assumption) | rfl | (simp; done) | (simp [*]; done) | (simp [*]; rfl)) (by first | assumption | (simp; done) | (simp; omega) | omega)) ?_)) | (refine OW.rot6 ?_; (first | refine OW.sv (SV.storeW rfl (by first | rfl | assumption) rfl (by first | exact u32s_one _ | assumption) rfl (by first | assumption | exact (u32s_length _).trans (List.length_replicate ..) | exact (u32s_length _).trans (by assumption) | rfl | (simp; done) | (simp [*]; done) | (simp [*]; rfl)) (by first | assumption | exact (u32s_length _).trans (List.length_replicate ..) | exact (u32s_length _).trans (by assumption) | rfl | (simp; done) | (simp [*]; done) | (simp [*]; rfl))) ?_ | refine OW.sv (SV.storeAs rfl (by first | rfl | assumption) rfl (by first | exact u32s_one _ | assumption) rfl (by first | assumption | exact (u32s_length _).trans (List.length_replicate ..) | exact (u32s_length _).trans (by assumption) | rfl | (simp; done) | (simp [*]; done) | (simp [*]; rfl)) (by first | assumption | (simp; done) | (simp; omega) | omega)) ?_)))
        refine OW.nil ?_
        (repeat (first | refine CW.seq ?_ | refine QW.then_n ?_ | refine CW.block ?_ | refine CW.ret ?_ | refine CW.skip ?_ | refine CW.exit ?_ | refine QW.then_x ?_ | refine QW.then_r ?_ | refine QW.block_n ?_ | refine QW.block_xe ?_ | refine QW.block_xn rfl ?_ | refine QW.block_r ?_))
        exact QW.retC1 rfl () trivial rfl (List.Mem.head _) rfl rfl rfl rfl ((u32s_length _).trans hwl) rfl (fun _ m => m.tail.tail)
end Go.Fw.Tryd
