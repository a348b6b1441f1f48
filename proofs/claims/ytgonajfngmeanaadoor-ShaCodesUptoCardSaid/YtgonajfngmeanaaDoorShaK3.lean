/- Part of a proof: rules that its law uses. -/
import Derived.Test.YtgonajfngmeanaaDoorShaK2
namespace Go.Fw.Tryd
open Go Go.Proofs
set_option maxRecDepth 100000
set_option linter.unusedVariables false
set_option maxHeartbeats 1000000
theorem pad_does (w0 : World) (M : List Ent) (n : Int) (h : 0 ≤ n) (hm : n ≤ 9223372036854775807) : Does Tryd.prog 45 [.int .i64 n] w0 M (τ := Nat) (fun _ => True) (fun b => .tuple #[sl (some b) 0 (padLen n) (padLen n), .int .i64 0]) (fun b => (some b, blk (u8s (padL n)) 5) :: M) := by
  refine Does.enter Tryd.func45 rfl Tryd.ntmps45 rfl ?_
  have hL : (padLen n : Int) = 9 + (64 - (n % 64 + 9) % 64) % 64 := by unfold padLen; omega
  have hL9 : 9 ≤ padLen n := by omega
  have hL72 : padLen n ≤ 72 := by omega
  (repeat (first | refine CW.seq ?_ | refine QW.then_n ?_ | refine CW.block ?_ | refine CW.ret ?_ | refine CW.skip ?_ | refine CW.exit ?_ | refine QW.then_x ?_ | refine QW.then_r ?_ | refine QW.block_n ?_ | refine QW.block_xe ?_ | refine QW.block_xn rfl ?_ | refine QW.block_r ?_))
  refine CW.region ?_
  refine OW.rv (RV.assign rfl) rfl ?_
  refine OW.rv (RV.assign rfl) rfl ?_
  refine OW.nil ?_
  (repeat (first | refine CW.seq ?_ | refine QW.then_n ?_ | refine CW.block ?_ | refine CW.ret ?_ | refine CW.skip ?_ | refine CW.exit ?_ | refine QW.then_x ?_ | refine QW.then_r ?_ | refine QW.block_n ?_ | refine QW.block_xe ?_ | refine QW.block_xn rfl ?_ | refine QW.block_r ?_))
  (repeat (first | refine CW.seq ?_ | refine QW.then_n ?_ | refine CW.block ?_ | refine CW.ret ?_ | refine CW.skip ?_ | refine CW.exit ?_ | refine QW.then_x ?_ | refine QW.then_r ?_ | refine QW.block_n ?_ | refine QW.block_xe ?_ | refine QW.block_xn rfl ?_ | refine QW.block_r ?_))
  refine CW.region ?_
  refine OW.rv (RV.move rfl) rfl ?_
  (first | refine OW.rv (RV.lss_t rfl rfl (by omega)) rfl ?_ | refine OW.rv (RV.lss_f rfl rfl (by omega)) rfl ?_ | refine OW.rv (RV.lss rfl rfl) rfl ?_)
  refine OW.nil ?_
  (repeat (first | refine CW.seq ?_ | refine QW.then_n ?_ | refine CW.block ?_ | refine CW.ret ?_ | refine CW.skip ?_ | refine CW.exit ?_ | refine QW.then_x ?_ | refine QW.then_r ?_ | refine QW.block_n ?_ | refine QW.block_xe ?_ | refine QW.block_xn rfl ?_ | refine QW.block_r ?_))
  (first | refine CW.cond_t rfl ?_ | refine CW.cond_f rfl ?_ | refine CW.cond_p rfl (fun h => ?_) (fun h => ?_) | refine CW.cond_np rfl (fun h => ?_) (fun h => ?_) | refine CW.cond rfl (fun h => ?_) (fun h => ?_))
  (repeat (first | refine CW.seq ?_ | refine QW.then_n ?_ | refine CW.block ?_ | refine CW.ret ?_ | refine CW.skip ?_ | refine CW.exit ?_ | refine QW.then_x ?_ | refine QW.then_r ?_ | refine QW.block_n ?_ | refine QW.block_xe ?_ | refine QW.block_xn rfl ?_ | refine QW.block_r ?_))
  refine CW.region ?_
  refine OW.rv (RV.move rfl) rfl ?_
  (first | refine OW.rv (RV.rem rfl rfl (by omega) (by omega)) rfl ?_ | refine OW.rv (RV.trem rfl rfl (by omega)) rfl ?_)
  refine OW.rv (RV.add rfl rfl (by omega)) rfl ?_
  (first | refine OW.rv (RV.rem rfl rfl (by omega) (by omega)) rfl ?_ | refine OW.rv (RV.trem rfl rfl (by omega)) rfl ?_)
  refine OW.rv (RV.sub rfl rfl (by omega)) rfl ?_
  (first | refine OW.rv (RV.rem rfl rfl (by omega) (by omega)) rfl ?_ | refine OW.rv (RV.trem rfl rfl (by omega)) rfl ?_)
  refine OW.rv (RV.assign rfl) rfl ?_
  refine OW.nil ?_
  (repeat (first | refine CW.seq ?_ | refine QW.then_n ?_ | refine CW.block ?_ | refine CW.ret ?_ | refine CW.skip ?_ | refine CW.exit ?_ | refine QW.then_x ?_ | refine QW.then_r ?_ | refine QW.block_n ?_ | refine QW.block_xe ?_ | refine QW.block_xn rfl ?_ | refine QW.block_r ?_))
  (repeat (first | refine CW.seq ?_ | refine QW.then_n ?_ | refine CW.block ?_ | refine CW.ret ?_ | refine CW.skip ?_ | refine CW.exit ?_ | refine QW.then_x ?_ | refine QW.then_r ?_ | refine QW.block_n ?_ | refine QW.block_xe ?_ | refine QW.block_xn rfl ?_ | refine QW.block_r ?_))
  refine CW.region ?_
  refine OW.rv (RV.move rfl) rfl ?_
  refine OW.rv (RV.add rfl rfl (by omega)) rfl ?_
  refine OW.make (padLen n) (padLen n) rfl (by first | rfl | omega) rfl (by first | rfl | omega) rfl rfl rfl rfl (by omega) (by simp only [i5]; omega) (by omega) rfl (fun b18 => ?_)
  refine OW.rv (RV.assign rfl) rfl ?_
  refine OW.nil ?_
  (repeat (first | refine CW.seq ?_ | refine QW.then_n ?_ | refine CW.block ?_ | refine CW.ret ?_ | refine CW.skip ?_ | refine CW.exit ?_ | refine QW.then_x ?_ | refine QW.then_r ?_ | refine QW.block_n ?_ | refine QW.block_xe ?_ | refine QW.block_xn rfl ?_ | refine QW.block_r ?_))
  (repeat (first | refine CW.seq ?_ | refine QW.then_n ?_ | refine CW.block ?_ | refine CW.ret ?_ | refine CW.skip ?_ | refine CW.exit ?_ | refine QW.then_x ?_ | refine QW.then_r ?_ | refine QW.block_n ?_ | refine QW.block_xe ?_ | refine QW.block_xn rfl ?_ | refine QW.block_r ?_))
  refine CW.region ?_
  refine OW.rv (RV.move rfl) rfl ?_
  (first | refine OW.rv (RV.idx_o _ rfl rfl rfl rfl rfl (by first | rfl | assumption) (by omega)) rfl ?_ | refine OW.rv (RV.idx_r _ rfl rfl rfl rfl rfl (by first | rfl | assumption) (by omega)) rfl ?_ | refine OW.rv (RV.idx_oz rfl rfl (by omega) rfl rfl (by first | rfl | assumption) (by omega)) rfl ?_ | refine OW.rv (RV.idx_rz rfl rfl (by omega) rfl rfl (by first | rfl | assumption) (by omega)) rfl ?_)
  (first | refine OW.sv (SV.store rfl (by first | rfl | assumption) rfl rfl rfl (by first | assumption | (simp; done) | (simp; omega) | omega)) ?_ | (refine OW.rot1 ?_; refine OW.sv (SV.store rfl (by first | rfl | assumption) rfl rfl rfl (by first | assumption | (simp; done) | (simp; omega) | omega)) ?_) | (refine OW.rot2 ?_; refine OW.sv (SV.store rfl (by first | rfl | assumption) rfl rfl rfl (by first | assumption | (simp; done) | (simp; omega) | omega)) ?_) | (refine OW.rot3 ?_; refine OW.sv (SV.store rfl (by first | rfl | assumption) rfl rfl rfl (by first | assumption | (simp; done) | (simp; omega) | omega)) ?_) | (refine OW.rot4 ?_; refine OW.sv (SV.store rfl (by first | rfl | assumption) rfl rfl rfl (by first | assumption | (simp; done) | (simp; omega) | omega)) ?_))
  refine OW.nil ?_
  (repeat (first | refine CW.seq ?_ | refine QW.then_n ?_ | refine CW.block ?_ | refine CW.ret ?_ | refine CW.skip ?_ | refine CW.exit ?_ | refine QW.then_x ?_ | refine QW.then_r ?_ | refine QW.block_n ?_ | refine QW.block_xe ?_ | refine QW.block_xn rfl ?_ | refine QW.block_r ?_))
  (repeat (first | refine CW.seq ?_ | refine QW.then_n ?_ | refine CW.block ?_ | refine CW.ret ?_ | refine CW.skip ?_ | refine CW.exit ?_ | refine QW.then_x ?_ | refine QW.then_r ?_ | refine QW.block_n ?_ | refine QW.block_xe ?_ | refine QW.block_xn rfl ?_ | refine QW.block_r ?_))
  refine CW.region ?_
  refine OW.rv (RV.move rfl) rfl ?_
  refine OW.rv (RV.conv_i64 rfl rfl rfl) rfl ?_
  refine OW.rv (RV.mul64 rfl (by first | rfl | exact lit64 _ rfl) rfl (by first | rfl | exact lit64 _ rfl)) rfl ?_
  refine OW.rv (RV.assign rfl) rfl ?_
  refine OW.nil ?_
  (repeat (first | refine CW.seq ?_ | refine QW.then_n ?_ | refine CW.block ?_ | refine CW.ret ?_ | refine CW.skip ?_ | refine CW.exit ?_ | refine QW.then_x ?_ | refine QW.then_r ?_ | refine QW.block_n ?_ | refine QW.block_xe ?_ | refine QW.block_xn rfl ?_ | refine QW.block_r ?_))
  (repeat (first | refine CW.seq ?_ | refine QW.then_n ?_ | refine CW.block ?_ | refine CW.ret ?_ | refine CW.skip ?_ | refine CW.exit ?_ | refine QW.then_x ?_ | refine QW.then_r ?_ | refine QW.block_n ?_ | refine QW.block_xe ?_ | refine QW.block_xn rfl ?_ | refine QW.block_r ?_))
  refine CW.region ?_
  refine OW.rv (RV.move rfl) rfl ?_
  refine OW.nil ?_
  (repeat (first | refine CW.seq ?_ | refine QW.then_n ?_ | refine CW.block ?_ | refine CW.ret ?_ | refine CW.skip ?_ | refine CW.exit ?_ | refine QW.then_x ?_ | refine QW.then_r ?_ | refine QW.block_n ?_ | refine QW.block_xe ?_ | refine QW.block_xn rfl ?_ | refine QW.block_r ?_))
  have e0 : (List.replicate (padLen n) (Value.int .u8 0)).set (0 + 0) (Value.int .u8 128) = u8s (padAt (padLen n) (BitVec.ofInt 64 n * 8#64) 0) := by
    rw [u8s_rep, ← padAt_zero (by omega)]; exact u8s_set _ _ 128#8
  refine CW.loop (σ := Nat) (fun i => i ≤ 8) (fun i => [(5, sl (some b18) 0 (padLen n) (padLen n)), (6, U64 (BitVec.ofInt 64 n * 8#64)), (24, .int .i64 (i : Int))]) (fun i => (some b18, blk (u8s (padAt (padLen n) (BitVec.ofInt 64 n * 8#64) i)) 5) :: M) (fun i => 8 - i) 0 (by omega) ⟨rfl, rfl, rfl, trivial⟩ (fun _ m => by rw [← e0]; exact m) ?_
  intro i hi
  (repeat (first | refine CW.seq ?_ | refine QW.then_n ?_ | refine CW.block ?_ | refine CW.ret ?_ | refine CW.skip ?_ | refine CW.exit ?_ | refine QW.then_x ?_ | refine QW.then_r ?_ | refine QW.block_n ?_ | refine QW.block_xe ?_ | refine QW.block_xn rfl ?_ | refine QW.block_r ?_))
  refine CW.region ?_
  refine OW.rv (RV.lss rfl rfl) rfl ?_
  refine OW.nil ?_
  (repeat (first | refine CW.seq ?_ | refine QW.then_n ?_ | refine CW.block ?_ | refine CW.ret ?_ | refine CW.skip ?_ | refine CW.exit ?_ | refine QW.then_x ?_ | refine QW.then_r ?_ | refine QW.block_n ?_ | refine QW.block_xe ?_ | refine QW.block_xn rfl ?_ | refine QW.block_r ?_))
  (first | refine CW.cond_t rfl ?_ | refine CW.cond_f rfl ?_ | refine CW.cond_p rfl (fun hlt => ?_) (fun hlt => ?_) | refine CW.cond_np rfl (fun hlt => ?_) (fun hlt => ?_) | refine CW.cond rfl (fun hlt => ?_) (fun hlt => ?_))
  · (repeat (first | refine CW.seq ?_ | refine QW.then_n ?_ | refine CW.block ?_ | refine CW.ret ?_ | refine CW.skip ?_ | refine CW.exit ?_ | refine QW.then_x ?_ | refine QW.then_r ?_ | refine QW.block_n ?_ | refine QW.block_xe ?_ | refine QW.block_xn rfl ?_ | refine QW.block_r ?_))
    refine CW.region ?_
    refine OW.rv (RV.move rfl) rfl ?_
    refine OW.rv (RV.assign rfl) rfl ?_
    refine OW.nil ?_
    (repeat (first | refine CW.seq ?_ | refine QW.then_n ?_ | refine CW.block ?_ | refine CW.ret ?_ | refine CW.skip ?_ | refine CW.exit ?_ | refine QW.then_x ?_ | refine QW.then_r ?_ | refine QW.block_n ?_ | refine QW.block_xe ?_ | refine QW.block_xn rfl ?_ | refine QW.block_r ?_))
    have hl : 0 + ((padLen n : Int) - 1 - (i : Int)).toNat < (u8s (padAt (padLen n) (BitVec.ofInt 64 n * 8#64) i)).length := by rw [u8s_length, padAt_length]; omega
    (repeat (first | refine CW.seq ?_ | refine QW.then_n ?_ | refine CW.block ?_ | refine CW.ret ?_ | refine CW.skip ?_ | refine CW.exit ?_ | refine QW.then_x ?_ | refine QW.then_r ?_ | refine QW.block_n ?_ | refine QW.block_xe ?_ | refine QW.block_xn rfl ?_ | refine QW.block_r ?_))
    refine CW.region ?_
    refine OW.rv (RV.move rfl) rfl ?_
    refine OW.rv (RV.move rfl) rfl ?_
    refine OW.rv (RV.len rfl rfl) rfl ?_
    refine OW.rv (RV.sub rfl rfl (by omega)) rfl ?_
    refine OW.rv (RV.move rfl) rfl ?_
    refine OW.rv (RV.sub rfl rfl (by omega)) rfl ?_
    refine OW.rv (RV.move rfl) rfl ?_
    refine OW.rv (RV.move rfl) rfl ?_
    refine OW.rv (RV.mul rfl rfl (by omega)) rfl ?_
    (first | refine OW.rv (RV.shr64 rfl (by first | rfl | exact lit64 _ rfl) rfl rfl) rfl ?_ | refine OW.rv (RV.shr64_i rfl (by first | rfl | exact lit64 _ rfl) rfl (by omega)) rfl ?_)
    refine OW.rv (RV.conv64_8 rfl (by first | rfl | exact lit64 _ rfl) rfl rfl) rfl ?_
    (first | refine OW.rv (RV.idx_o _ rfl rfl rfl rfl rfl (by first | rfl | assumption) (by omega)) rfl ?_ | refine OW.rv (RV.idx_r _ rfl rfl rfl rfl rfl (by first | rfl | assumption) (by omega)) rfl ?_ | refine OW.rv (RV.idx_oz rfl rfl (by omega) rfl rfl (by first | rfl | assumption) (by omega)) rfl ?_ | refine OW.rv (RV.idx_rz rfl rfl (by omega) rfl rfl (by first | rfl | assumption) (by omega)) rfl ?_)
    (first | refine OW.sv (SV.store rfl (by first | rfl | assumption) rfl rfl rfl (by first | assumption | (simp; done) | (simp; omega) | omega)) ?_ | (refine OW.rot1 ?_; refine OW.sv (SV.store rfl (by first | rfl | assumption) rfl rfl rfl (by first | assumption | (simp; done) | (simp; omega) | omega)) ?_) | (refine OW.rot2 ?_; refine OW.sv (SV.store rfl (by first | rfl | assumption) rfl rfl rfl (by first | assumption | (simp; done) | (simp; omega) | omega)) ?_) | (refine OW.rot3 ?_; refine OW.sv (SV.store rfl (by first | rfl | assumption) rfl rfl rfl (by first | assumption | (simp; done) | (simp; omega) | omega)) ?_) | (refine OW.rot4 ?_; refine OW.sv (SV.store rfl (by first | rfl | assumption) rfl rfl rfl (by first | assumption | (simp; done) | (simp; omega) | omega)) ?_))
    refine OW.nil ?_
    (repeat (first | refine CW.seq ?_ | refine QW.then_n ?_ | refine CW.block ?_ | refine CW.ret ?_ | refine CW.skip ?_ | refine CW.exit ?_ | refine QW.then_x ?_ | refine QW.then_r ?_ | refine QW.block_n ?_ | refine QW.block_xe ?_ | refine QW.block_xn rfl ?_ | refine QW.block_r ?_))
    (repeat (first | refine CW.seq ?_ | refine QW.then_n ?_ | refine CW.block ?_ | refine CW.ret ?_ | refine CW.skip ?_ | refine CW.exit ?_ | refine QW.then_x ?_ | refine QW.then_r ?_ | refine QW.block_n ?_ | refine QW.block_xe ?_ | refine QW.block_xn rfl ?_ | refine QW.block_r ?_))
    refine CW.region ?_
    refine OW.rv (RV.add rfl rfl (by omega)) rfl ?_
    refine OW.rv (RV.move rfl) rfl ?_
    refine OW.nil ?_
    (repeat (first | refine CW.seq ?_ | refine QW.then_n ?_ | refine CW.block ?_ | refine CW.ret ?_ | refine CW.skip ?_ | refine CW.exit ?_ | refine QW.then_x ?_ | refine QW.then_r ?_ | refine QW.block_n ?_ | refine QW.block_xe ?_ | refine QW.block_xn rfl ?_ | refine QW.block_r ?_))
    have e1 : 0 + ((padLen n : Int) - 1 - (i : Int)).toNat = padLen n - 1 - i := by omega
    refine QW.again (i + 1) (by omega) (by omega) ⟨rfl, rfl, rfl, trivial⟩ (fun _ m => ?_)
    rw [e1, u8s_set, padAt_step (by omega) hL9] at m
    exact m
  · obtain rfl : i = 8 := by omega
    (repeat (first | refine CW.seq ?_ | refine QW.then_n ?_ | refine CW.block ?_ | refine CW.ret ?_ | refine CW.skip ?_ | refine CW.exit ?_ | refine QW.then_x ?_ | refine QW.then_r ?_ | refine QW.block_n ?_ | refine QW.block_xe ?_ | refine QW.block_xn rfl ?_ | refine QW.block_r ?_))
    refine CW.region ?_
    refine OW.rv (RV.move rfl) rfl ?_
    refine OW.rv (RV.assign rfl) rfl ?_
    refine OW.rv (RV.assign rfl) rfl ?_
    refine OW.nil ?_
    (repeat (first | refine CW.seq ?_ | refine QW.then_n ?_ | refine CW.block ?_ | refine CW.ret ?_ | refine CW.skip ?_ | refine CW.exit ?_ | refine QW.then_x ?_ | refine QW.then_r ?_ | refine QW.block_n ?_ | refine QW.block_xe ?_ | refine QW.block_xn rfl ?_ | refine QW.block_r ?_))
    exact QW.ret2 rfl b18 trivial rfl rfl rfl (fun _ m => m)
theorem padL_len (n : Nat) : (padL (n : Int)).length = padLen n := padAt_length ..
theorem HSum_does (w0 : World) (N : List Ent) (hK : TabAt w0 1 constL) (hS : TabAt w0 0 startL) (b : Nat) (ob : Option Nat) (c : Nat) (r : List Value) (s : List (BitVec 32)) (rest : List (BitVec 8)) (n : Int) (t : List (BitVec 8)) (h : HT s rest n t) (ho : OwnS ob rest.length c 1 (u8s rest) r) (hmx : t.length ≤ 4611686018427387904) :
    DoesG Tryd.prog 28 [ptr (some b) 0] w0 [(some b, blk (u32s s ++ [sl ob 0 rest.length c, .int .i64 n]) 56), (ob, blk (u8s rest ++ r) 5)] N
      (fun u G => u = .agg (u8s (shaR t)).toArray ∧ G = [(some b, blk (u32s s ++ [sl ob 0 rest.length c, .int .i64 n]) 56), (ob, blk (u8s rest ++ r) 5)]) := by
  have hn0 := h.n
  subst hn0
  have hs1 := h.sl
  have hrl := rest_len t
  rw [← h.rest] at hrl
  have hL : (padLen (t.length : Int) : Int) = 9 + (64 - ((t.length : Int) % 64 + 9) % 64) % 64 := by unfold padLen; omega
  have hpl := padL_len t.length
  have hmod : t.length % 64 < 64 := Nat.mod_lt _ (by decide)
  generalize hT : t ++ padL (t.length : Int) = T
  have hTl : T.length = t.length + padLen (t.length : Int) := by rw [← hT, List.length_append, hpl]
  have hT64 : T.length % 64 = 0 := by omega
  have hE : rest ++ padL (t.length : Int) = T.drop (64 * (t.length / 64)) := by rw [← hT, List.drop_append_of_le_length (by omega), h.rest]
  have hnow : nowS t = soakS (t.length / 64) T startL := soakS_congr _ _ _ _ (by rw [← hT, List.take_append_of_le_length (by omega)])
  have m2 := ho.mx
  refine DoesG.enter Tryd.func28 rfl Tryd.ntmps28 rfl (M := (some b, blk (u32s s ++ [sl ob 0 rest.length c, .int .i64 (t.length : Int)]) 56) :: (ob, blk (u8s rest ++ r) 5) :: N) rfl ?_
  refine CW.seq ?_
  refine CW.region ?_
  refine OW.alloc (l := u8s (List.replicate 32 0#8)) rfl (by rw [← u8s_rep]; rfl) rfl (fun b2 => ?_)
  refine OW.nil ?_
  refine QW.then_n ?_
  refine CW.seq ?_
  refine CW.seq ?_
  refine CW.region ?_
  refine OW.rv (RV.move rfl) rfl ?_
  refine OW.rv (RV.eqlS rfl rfl rfl) rfl ?_
  refine OW.nil ?_
  refine QW.then_n ?_
  refine CW.is_f rfl rfl ?_
  refine CW.skip ?_
  refine QW.then_n ?_
  refine CW.seq ?_
  refine CW.region ?_
  refine OW.rv (RV.move rfl) rfl ?_
  refine OW.rot1 ?_
  refine OW.callG Tryd.call46 rfl (now_does w0 ((some b2, blk (u8s (List.replicate 32 0#8)) 39) :: (ob, blk (u8s rest ++ r) 5) :: N) hS b (sl ob 0 rest.length c) s rest _ t h (by omega)) rfl rfl ?_
  rintro L1 M1 ⟨e1, e2⟩
  rw [e1, e2]
  clear e1 e2 L1 M1
  refine OW.alloc (l := u32s (List.replicate 8 0#32)) rfl (by rw [← u32s_rep]; rfl) rfl (fun b3 => ?_)
  refine OW.sv (SV.storeW rfl rfl rfl (u32s_one _) rfl ((u32s_length _).trans (List.length_replicate ..)) ((u32s_length _).trans (nowS_length t))) ?_
  refine OW.nil ?_
  refine QW.then_n ?_
  refine CW.seq ?_
  refine CW.region ?_
  refine OW.rv (RV.move rfl) rfl ?_
  refine OW.rv (RV.nilCheck rfl) rfl ?_
  refine OW.rv (RV.field (ob := some b) (off := 0) rfl rfl rfl rfl) rfl ?_
  refine OW.rv (RV.load rfl (List.Mem.tail _ (List.Mem.head _)) rfl rfl rfl (hs_at9 hs1 _ _)) rfl ?_
  refine OW.call Tryd.call45 rfl (pad_does w0 _ (t.length : Int) (by omega) (by omega)) rfl (fun bp _ => ?_)
  refine OW.rv (RV.move rfl) rfl ?_
  refine OW.rv (RV.extract rfl rfl) rfl ?_
  refine OW.rv (RV.extract rfl rfl) rfl ?_
  refine OW.rv (RV.assign rfl) rfl ?_
  refine OW.rv (RV.assign rfl) rfl ?_
  refine OW.nil ?_
  refine QW.then_n ?_
  refine CW.seq ?_
  refine CW.region ?_
  refine OW.rv (RV.move rfl) rfl ?_
  refine OW.rv (RV.nilCheck rfl) rfl ?_
  refine OW.rv (RV.field (ob := some b) (off := 0) rfl rfl rfl rfl) rfl ?_
  refine OW.rv (RV.load rfl (List.Mem.tail _ (List.Mem.tail _ (List.Mem.head _))) rfl rfl rfl (hs_at8 hs1 _ _)) rfl ?_
  refine OW.mem (M' := (none, blk ([] ++ []) 5) :: (some bp, blk (u8s (padL (t.length : Int))) 5) :: (some b3, blk (u32s (nowS t)) 23) :: (some b, blk (u32s s ++ [sl ob 0 rest.length c, .int .i64 (t.length : Int)]) 56) :: (some b2, blk (u8s (List.replicate 32 0#8)) 39) :: (ob, blk (u8s rest ++ r) 5) :: N) (fun w m => m.nil_ent _) ?_
  refine OW.appendOwn (s := 1) rfl rfl rfl rfl rfl rfl OwnS.nil (fun w m => m.rd0 (List.Mem.tail _ (List.Mem.tail _ (List.Mem.tail _ (List.Mem.tail _ (List.Mem.tail _ (List.Mem.head _)))))) (fun e => ho.nilc (by decide) e)) ho.n (u8s_one _) (ho.zeroO (by decide)) (by decide) (by decide) (show (0 + rest.length) * 1 ≤ _ by omega) rfl rfl (rest.length) (u8s rest) (Nat.zero_add _) rfl (fun ob1 r1 c1 o1 => ?_)
  refine OW.rv (RV.move rfl) rfl ?_
  refine OW.appendOwn (s := 1) rfl rfl rfl rfl rfl rfl o1 (fun w m => m.rdl (List.Mem.tail _ (List.Mem.head _)) (fun e => nomatch e)) (by rw [u8s_length, hpl]; omega) (u8s_one _) (fun e => nomatch e) (by decide) (by decide) (show (rest.length + padLen (t.length : Int)) * 1 ≤ _ by omega) rfl rfl ((rest ++ padL (t.length : Int)).length) (u8s (rest ++ padL (t.length : Int))) (by rw [List.length_append, hpl]) (u8s_app _ _) (fun ob2 r2 c2 o2 => ?_)
  refine OW.rv (RV.assign rfl) rfl ?_
  refine OW.nil ?_
  refine QW.then_n ?_
  rw [hE] at o2 ⊢
  have v2 : View (fun w => Mem w0 w [(ob2, blk (u8s (T.drop (64 * (t.length / 64))) ++ r2) 5)]) (ob2.map fun k => ⟨k, 0, none⟩) (T.drop (64 * (t.length / 64))).length c2 1 (u8s (T.drop (64 * (t.length / 64)))) := o2.view (by decide) (fun w q => q)
  generalize hΨ : (fun w => Mem w0 w [(ob2, blk (u8s (T.drop (64 * (t.length / 64))) ++ r2) 5)]) = Ψ at v2
  generalize hEnt : ((ob2, blk (u8s (T.drop (64 * (t.length / 64))) ++ r2) 5) : Ent) = eE at hΨ ⊢
  refine CW.seq ?_
  refine CW.cutJ (fun L' M' => L' = [(0, ptr (some b) 0), (2, ptr (some b2) 0), (3, ptr (some b3) 0)] ∧ M' = (some b3, blk (u32s (soakS (T.length / 64) T startL)) 23) :: eE :: (some b, blk (u32s s ++ [sl ob 0 rest.length c, .int .i64 (t.length : Int)]) 56) :: (some b2, blk (u8s (List.replicate 32 0#8)) 39) :: (ob, blk (u8s rest ++ r) 5) :: N) ?_ ?_
  · rintro L' M' ⟨rfl, rfl⟩
    have hSl : (soakS (T.length / 64) T startL).length = 8 := soakS_length _ _ _ rfl
    have hR : shaR t = sqS (soakS (T.length / 64) T startL) := by unfold shaR; rw [hT]
    rw [hR]
    generalize soakS (T.length / 64) T startL = S at hSl ⊢
    refine QW.then_n ?_
    refine CW.seq ?_
    refine CW.region ?_
    refine OW.alloc (l := u8s (List.replicate 32 0#8)) rfl (by rw [← u8s_rep]; rfl) rfl (fun b7 => ?_)
    refine OW.nil ?_
    refine QW.then_n ?_
    refine CW.seq ?_
    refine CW.seq ?_
    refine CW.region ?_
    refine OW.rv (RV.loadW rfl (List.Mem.tail _ (List.Mem.head _)) rfl rfl rfl rfl ((u32s_length _).trans hSl)) rfl ?_
    refine OW.rv (RV.move rfl) rfl ?_
    refine OW.nil ?_
    refine QW.then_n ?_
    refine CW.cutJ (fun L' M' => L' = [(2, ptr (some b2) 0), (7, ptr (some b7) 0)] ∧ M' = (some b7, blk (u8s (sqTo S 32)) 39) :: (some b2, blk (u8s (List.replicate 32 0#8)) 39) :: (some b, blk (u32s s ++ [sl ob 0 rest.length c, .int .i64 (t.length : Int)]) 56) :: (ob, blk (u8s rest ++ r) 5) :: N) ?_ ?_
    · rintro L' M' ⟨rfl, rfl⟩
      refine QW.then_n ?_
      refine CW.seq ?_
      refine CW.region ?_
      refine OW.rv (RV.loadW rfl (List.Mem.head _) rfl rfl rfl rfl ((u8s_length _).trans (sqTo_length S (by omega)))) rfl ?_
      refine OW.rot1 ?_
      refine OW.sv (SV.storeW rfl rfl rfl (u8s_one _) rfl ((u8s_length _).trans (List.length_replicate ..)) ((u8s_length _).trans (sqTo_length S (by omega)))) ?_
      refine OW.nil ?_
      refine QW.then_n ?_
      refine CW.ret ?_
      refine QW.retG (rs := [.cell 2 39]) [.agg (u8s (sqTo S 32)).toArray] [(some b, blk (u32s s ++ [sl ob 0 rest.length c, .int .i64 (t.length : Int)]) 56), (ob, blk (u8s rest ++ r) 5)] rfl ?_ rfl ?_ ?_ _ (.inl rfl)
      · exact ⟨⟨_, _, _, _, rfl, (List.Mem.head _), rfl, rfl, congrArg some ((u8s_length _).trans (sqTo_length S (by omega))).symm, rfl⟩, trivial⟩
      · exact ⟨by rw [sqTo_all]; rfl, rfl⟩
      · exact (fun w m => m.drop 2)
    · refine CW.block ?_
      refine CW.loopJ (fun k L' M' => ∃ i : Nat, k = 8 - i ∧ i ≤ 8 ∧ L' = [(2, ptr (some b2) 0), (7, ptr (some b7) 0), (40, .agg (u32s S).toArray), (41, .int .i64 (i : Int))] ∧ M' = (some b7, blk (u8s (sqTo S (4 * i))) 39) :: (some b2, blk (u8s (List.replicate 32 0#8)) 39) :: (some b, blk (u32s s ++ [sl ob 0 rest.length c, .int .i64 (t.length : Int)]) 56) :: (ob, blk (u8s rest ++ r) 5) :: N) (k0 := 8) ⟨0, rfl, by omega, rfl, rfl⟩ ⟨rfl, rfl, rfl, rfl, trivial⟩ (fun w m => m.pick [0, 4, 3, 5] 6 rfl rfl) ?_
      rintro k L' M' ⟨i, rfl, hi8, rfl, rfl⟩
      refine CW.seq ?_
      refine CW.region ?_
      refine OW.rv (RV.lss rfl rfl) rfl ?_
      refine OW.slot (.bool (decide (i < 8))) (congrArg Value.bool (decide_eq_decide.2 (by omega))) ?_
      refine OW.nil ?_
      refine QW.then_n ?_
      refine CW.seq ?_
      by_cases hi : i < 8
      · refine CW.is_t rfl (decide_eq_true hi) ?_
        refine CW.skip ?_
        refine QW.then_n ?_
        refine CW.seq ?_
        refine CW.cutJ (fun L' M' => L' = [(2, ptr (some b2) 0), (7, ptr (some b7) 0), (40, .agg (u32s S).toArray), (41, .int .i64 (i : Int))] ∧ M' = (some b7, blk (u8s (sqTo S (4 * i + 4))) 39) :: (some b2, blk (u8s (List.replicate 32 0#8)) 39) :: (some b, blk (u32s s ++ [sl ob 0 rest.length c, .int .i64 (t.length : Int)]) 56) :: (ob, blk (u8s rest ++ r) 5) :: N) ?_ ?_
        · rintro L' M' ⟨rfl, rfl⟩
          refine QW.then_n ?_
          refine CW.region ?_
          refine OW.rv (RV.add rfl rfl (by omega)) rfl ?_
          refine OW.slot (.int .i64 (((i + 1 : Nat)) : Int)) (by congr 1) ?_
          refine OW.rv (RV.move rfl) rfl ?_
          refine OW.nil ?_
          exact QW.againJ (k' := 8 - (i + 1)) (by omega) ⟨i + 1, rfl, by omega, rfl, rfl⟩ ⟨rfl, rfl, rfl, rfl, trivial⟩ (fun w m => m)
        · refine CW.block ?_
          refine CW.seq ?_
          refine CW.region ?_
          refine OW.rv (RV.move rfl) rfl ?_
          refine OW.rv (RV.indexV (l := u32s S) i rfl rfl rfl rfl rfl rfl rfl (by omega) (u32s_at (show S[i]? = some (S.getD i 0#32) by rw [List.getD_eq_getElem?_getD, List.getElem?_eq_getElem (by omega)]; rfl))) rfl ?_
          refine OW.rv (RV.assign rfl) rfl ?_
          refine OW.rv (RV.assign rfl) rfl ?_
          refine OW.nil ?_
          refine QW.then_n ?_
          refine CW.seq ?_
          refine CW.region ?_
          refine OW.rv (RV.move rfl) rfl ?_
          refine OW.nil ?_
          refine QW.then_n ?_
          refine CW.block ?_
          refine CW.loopJ (fun k L' M' => ∃ j : Nat, k = 4 - j ∧ j ≤ 4 ∧ L' = [(2, ptr (some b2) 0), (7, ptr (some b7) 0), (8, .int .i64 (i : Int)), (9, U32 (S.getD i 0#32)), (40, .agg (u32s S).toArray), (41, .int .i64 (i : Int)), (45, .int .i64 (j : Int))] ∧ M' = (some b7, blk (u8s (sqTo S (4 * i + j))) 39) :: (some b2, blk (u8s (List.replicate 32 0#8)) 39) :: (some b, blk (u32s s ++ [sl ob 0 rest.length c, .int .i64 (t.length : Int)]) 56) :: (ob, blk (u8s rest ++ r) 5) :: N) (k0 := 4) ⟨0, rfl, by omega, rfl, rfl⟩ ⟨rfl, rfl, rfl, rfl, rfl, rfl, rfl, trivial⟩ (fun w m => m) ?_
          rintro k L' M' ⟨j, rfl, hj4, rfl, rfl⟩
          refine CW.seq ?_
          refine CW.region ?_
          refine OW.rv (RV.lss rfl rfl) rfl ?_
          refine OW.slot (.bool (decide (j < 4))) (congrArg Value.bool (decide_eq_decide.2 (by omega))) ?_
          refine OW.nil ?_
          refine QW.then_n ?_
          refine CW.seq ?_
          by_cases hj : j < 4
          · refine CW.is_t rfl (decide_eq_true hj) ?_
            refine CW.skip ?_
            refine QW.then_n ?_
            refine CW.seq ?_
            refine CW.block ?_
            refine CW.seq ?_
            refine CW.region ?_
            refine OW.rv (RV.move rfl) rfl ?_
            refine OW.rv (RV.assign rfl) rfl ?_
            refine OW.nil ?_
            refine QW.then_n ?_
            refine CW.region ?_
            refine OW.rv (RV.move rfl) rfl ?_
            refine OW.rv (RV.mul rfl rfl (by omega)) rfl ?_
            refine OW.rv (RV.move rfl) rfl ?_
            refine OW.rv (RV.add rfl rfl (by omega)) rfl ?_
            refine OW.rv (RV.move rfl) rfl ?_
            refine OW.rv (RV.move rfl) rfl ?_
            refine OW.rv (RV.mul rfl rfl (by omega)) rfl ?_
            refine OW.rv (RV.sub rfl rfl (by omega)) rfl ?_
            refine OW.slot (.int .i64 ((24 - 8 * j : Nat) : Int)) (by congr 1; omega) ?_
            refine OW.rv (RV.shr32 rfl rfl rfl rfl) rfl ?_
            refine OW.rv (RV.conv32_8 rfl rfl rfl rfl) rfl ?_
            refine OW.rv (RV.idx_a (4 * i + j) rfl rfl (by omega) rfl rfl (by omega)) rfl ?_
            refine OW.sv (SV.store rfl rfl rfl rfl rfl (by rw [u8s_length, sqTo_length S (by omega)]; omega)) ?_
            refine OW.cells (u8s (sqTo S (4 * i + j + 1))) (by rw [Nat.zero_add, u8s_set, sqTo_set S (by omega) _ (by rw [show (4 * i + j) / 4 = i by omega, show (4 * i + j) % 4 = j by omega])]) ?_
            refine OW.nil ?_
            refine QW.block_n ?_
            refine QW.then_n ?_
            refine CW.region ?_
            refine OW.rv (RV.add rfl rfl (by omega)) rfl ?_
            refine OW.slot (.int .i64 (((j + 1 : Nat)) : Int)) (by congr 1) ?_
            refine OW.rv (RV.move rfl) rfl ?_
            refine OW.nil ?_
            exact QW.againJ (k' := 4 - (j + 1)) (by omega) ⟨j + 1, rfl, by omega, rfl, rfl⟩ ⟨rfl, rfl, rfl, rfl, rfl, rfl, rfl, trivial⟩ (fun w m => m)
          · refine CW.is_f rfl (decide_eq_false hj) ?_
            refine CW.exit ?_
            refine QW.then_x ?_
            refine QW.then_x ?_
            refine QW.block_xe ?_
            obtain rfl : j = 4 := by omega
            refine QW.block_n ?_
            exact QW.join ⟨rfl, rfl⟩ ⟨rfl, rfl, rfl, rfl, trivial⟩ (fun w m => m)
      · refine CW.is_f rfl (decide_eq_false hi) ?_
        refine CW.exit ?_
        refine QW.then_x ?_
        refine QW.then_x ?_
        refine QW.block_xe ?_
        obtain rfl : i = 8 := by omega
        exact QW.join ⟨rfl, rfl⟩ ⟨rfl, rfl, trivial⟩ (fun w m => m)
  · refine CW.block ?_
    refine CW.loopJ (fun k L' M' => ∃ (p : Nat) (A1 : Option Addr) (c1' : Nat), k = T.length / 64 - p ∧ p ≤ T.length / 64 ∧ View Ψ A1 (T.drop (64 * p)).length c1' 1 (u8s (T.drop (64 * p))) ∧ L' = [(0, ptr (some b) 0), (2, ptr (some b2) 0), (3, ptr (some b3) 0), (6, .slice A1 (T.drop (64 * p)).length c1')] ∧ M' = (some b3, blk (u32s (soakS p T startL)) 23) :: eE :: (some b, blk (u32s s ++ [sl ob 0 rest.length c, .int .i64 (t.length : Int)]) 56) :: (some b2, blk (u8s (List.replicate 32 0#8)) 39) :: (ob, blk (u8s rest ++ r) 5) :: N) (k0 := T.length / 64 - t.length / 64) ⟨t.length / 64, _, c2, rfl, by omega, v2, rfl, rfl⟩ ⟨rfl, rfl, rfl, rfl, trivial⟩ (fun w m => by rw [← hnow]; exact m.pick [2, 0, 3, 4, 5] 6 rfl rfl) ?_
    rintro k L' M' ⟨p, A1, c1', rfl, hp, v1, rfl, rfl⟩
    have hdl : (T.drop (64 * p)).length = T.length - 64 * p := List.length_drop
    have m1 := v1.mx
    refine CW.seq ?_
    refine CW.seq ?_
    refine CW.region ?_
    refine OW.rv (RV.move rfl) rfl ?_
    refine OW.rv (RV.len rfl rfl) rfl ?_
    refine OW.rv (RV.gtr rfl rfl) rfl ?_
    refine OW.slot (.bool (decide (p < T.length / 64))) (congrArg Value.bool (decide_eq_decide.2 (by omega))) ?_
    refine OW.nil ?_
    refine QW.then_n ?_
    by_cases hlt : p < T.length / 64
    · refine CW.is_t rfl (decide_eq_true hlt) ?_
      refine CW.skip ?_
      refine QW.then_n ?_
      have hle := v1.le
      have hk : 64 ≤ (T.drop (64 * p)).length := by omega
      have htk : ((T.drop (64 * p)).take 64).length = 64 := by rw [List.length_take]; omega
      have vk := v1.hi8 hk
      have vd := v1.lo8 hk
      have hSl : (soakS p T startL).length = 8 := soakS_length _ _ _ rfl
      refine CW.seq ?_
      refine CW.block ?_
      refine CW.drawsX (eE :: (some b, blk (u32s s ++ [sl ob 0 rest.length c, .int .i64 (t.length : Int)]) 56) :: N) [4] (fun w m => m.pick [1, 2] 5 rfl rfl) mixed (by kernel_rfl) ?_
      refine XW.rv 0 rfl (by kernel_rfl) rfl (by kernel_rfl) (RV.loadW rfl (List.Mem.head _) rfl rfl rfl rfl ((u32s_length _).trans hSl)) rfl ?_
      refine XW.rs 1 rfl (by kernel_rfl) rfl (RV.move rfl) rfl ?_
      refine XW.rs 2 rfl (by kernel_rfl) rfl (RV.cut_hi (64) rfl rfl rfl rfl rfl (by omega)) rfl ?_
      refine XW.callG 3 rfl (by kernel_rfl) rfl Tryd.call39 rfl (fun N' hN' => Does.toG (behind_does w0 N' constL hK rfl (soakS p T startL) hSl A1 c1' ((T.drop (64 * p)).take 64) (fun w m => vk.rd w (by rw [← hΨ]; exact (hN' w m).pick [1] 2 rfl rfl |>.sublist (List.cons_sublist_cons.2 (List.nil_sublist _)))) htk (by omega))) rfl ?_
      rintro u G ⟨e1, e2⟩
      rw [e1, e2]
      clear e1 e2 u G
      refine XW.sv 4 rfl (by kernel_rfl) (SV.storeW rfl rfl rfl (u32s_one _) rfl ((u32s_length _).trans hSl) ((u32s_length _).trans (behindL_length hSl))) (fun w m => m.pick [1, 2] 5 rfl rfl) ?_
      refine XW.nil (by kernel_rfl) ?_
      refine QW.block_n ?_
      refine QW.then_n ?_
      refine CW.region ?_
      refine OW.rv (RV.move rfl) rfl ?_
      refine OW.rv (RV.cut_lo (s := 1) (64) rfl rfl rfl rfl rfl (by omega)) rfl ?_
      refine OW.slot (.slice (subA A1 c1' 64 1) ((T.drop (64 * p)).drop 64).length (c1' - 64)) (by rw [show ((T.drop (64 * p)).drop 64).length = (T.drop (64 * p)).length - 64 from List.length_drop]) ?_
      refine OW.rv (RV.assign rfl) rfl ?_
      refine OW.nil ?_
      have hdd : (T.drop (64 * p)).drop 64 = T.drop (64 * (p + 1)) := by rw [List.drop_drop]; congr 1
      rw [hdd] at vd ⊢
      exact QW.againJ (k' := T.length / 64 - (p + 1)) (by omega) ⟨p + 1, _, _, rfl, by omega, vd, rfl, rfl⟩ ⟨rfl, rfl, rfl, rfl, trivial⟩ (fun w m => by rw [soakS_snoc]; exact m)
    · refine CW.is_f rfl (decide_eq_false hlt) ?_
      refine CW.exit ?_
      refine QW.then_x ?_
      refine QW.then_x ?_
      refine QW.block_xe ?_
      obtain rfl : p = T.length / 64 := by omega
      exact QW.join ⟨rfl, rfl⟩ ⟨rfl, rfl, rfl, trivial⟩ (fun w m => m)
end Go.Fw.Tryd
