/- Part of a proof over Ytmfeghmggcpngaa: rules and contracts that the law's text uses. No condition. -/
import Derived.Test.YtmfeghmggcpngaaTy
import Derived.Test.YtmfeghmggcpngaaBloL
namespace Go.Fw.Try
open Go Go.Proofs
set_option maxRecDepth 100000
set_option linter.unusedVariables false

theorem num_does (w0 : World) (M : List Ent) (n : Int) : Does Try.prog 8 [.int .i64 n] w0 M (τ := Unit) (fun _ => True) (fun _ => .int .i64 n) (fun _ => M) := by
  refine Does.enter Try.func8 rfl Try.ntmps8 rfl ?_
  (repeat (first | refine CW.seq ?_ | refine QW.then_n ?_ | refine CW.block ?_ | refine CW.ret ?_ | refine CW.skip ?_ | refine CW.exit ?_ | refine QW.then_x ?_ | refine QW.then_r ?_ | refine QW.block_n ?_ | refine QW.block_xe ?_ | refine QW.block_xn rfl ?_ | refine QW.block_r ?_))
  refine CW.region ?_
  refine OW.rv (RV.assign rfl) rfl ?_
  refine OW.nil ?_
  (repeat (first | refine CW.seq ?_ | refine QW.then_n ?_ | refine CW.block ?_ | refine CW.ret ?_ | refine CW.skip ?_ | refine CW.exit ?_ | refine QW.then_x ?_ | refine QW.then_r ?_ | refine QW.block_n ?_ | refine QW.block_xe ?_ | refine QW.block_xn rfl ?_ | refine QW.block_r ?_))
  (repeat (first | refine CW.seq ?_ | refine QW.then_n ?_ | refine CW.block ?_ | refine CW.ret ?_ | refine CW.skip ?_ | refine CW.exit ?_ | refine QW.then_x ?_ | refine QW.then_r ?_ | refine QW.block_n ?_ | refine QW.block_xe ?_ | refine QW.block_xn rfl ?_ | refine QW.block_r ?_))
  refine CW.region ?_
  refine OW.rv (RV.move rfl) rfl ?_
  refine OW.rv (RV.assign rfl) rfl ?_
  refine OW.nil ?_
  (repeat (first | refine CW.seq ?_ | refine QW.then_n ?_ | refine CW.block ?_ | refine CW.ret ?_ | refine CW.skip ?_ | refine CW.exit ?_ | refine QW.then_x ?_ | refine QW.then_r ?_ | refine QW.block_n ?_ | refine QW.block_xe ?_ | refine QW.block_xn rfl ?_ | refine QW.block_r ?_))
  exact QW.ret1 rfl () trivial rfl (fun _ m => m)

theorem set_does (w0 : World) (M : List Ent) (b : List (BitVec 8)) (hb : b.length = 256) (j : Int) (h0 : 0 ≤ j) (h1 : j < 2048) : Does Try.prog 18 [.agg (u8s b).toArray, .int .i64 j] w0 M (τ := Unit) (fun _ => True) (fun _ => .agg (u8s (setB b j)).toArray) (fun q => M) := by
  refine Does.enter Try.func18 rfl Try.ntmps18 rfl ?_
  (repeat (first | refine CW.seq ?_ | refine QW.then_n ?_ | refine CW.block ?_ | refine CW.ret ?_ | refine CW.skip ?_ | refine CW.exit ?_ | refine QW.then_x ?_ | refine QW.then_r ?_ | refine QW.block_n ?_ | refine QW.block_xe ?_ | refine QW.block_xn rfl ?_ | refine QW.block_r ?_))
  refine CW.region ?_
  refine OW.boxA rfl rfl (fun b2 => ?_)
  refine OW.alloc (l := u8s (List.replicate 256 0#8)) rfl (by rw [← u8s_rep']; rfl) rfl (fun b4 => ?_)
  refine OW.nil ?_
  (repeat (first | refine CW.seq ?_ | refine QW.then_n ?_ | refine CW.block ?_ | refine CW.ret ?_ | refine CW.skip ?_ | refine CW.exit ?_ | refine QW.then_x ?_ | refine QW.then_r ?_ | refine QW.block_n ?_ | refine QW.block_xe ?_ | refine QW.block_xn rfl ?_ | refine QW.block_r ?_))
  have hl : 0 + (255 - j / 8).toNat < (u8s b).length := by rw [u8s_length]; omega
  have hg : (u8s b)[0 + (255 - j / 8).toNat]? = some (U8 (b.getD (255 - j / 8).toNat 0#8)) := by rw [Nat.zero_add]; exact u8s_get (by omega)
  have e : (u8s b).set (0 + (255 - j / 8).toNat) (U8 (b.getD (255 - j / 8).toNat 0#8 ||| 1#8 <<< (j % 8).toNat)) = u8s (setB b j) := by rw [Nat.zero_add, u8s_set']; rfl
  (repeat (first | refine CW.seq ?_ | refine QW.then_n ?_ | refine CW.block ?_ | refine CW.ret ?_ | refine CW.skip ?_ | refine CW.exit ?_ | refine QW.then_x ?_ | refine QW.then_r ?_ | refine QW.block_n ?_ | refine QW.block_xe ?_ | refine QW.block_xn rfl ?_ | refine QW.block_r ?_))
  refine CW.drawsT 10 mixed (by kernel_rfl) ?_
  refine TW.rv (RV.move rfl) rfl ?_
  refine TW.rv (RV.quo rfl rfl (by omega) (by omega) (by omega)) rfl ?_
  refine TW.rv (RV.sub rfl rfl (by omega)) rfl ?_
  (first | refine TW.rv (RV.idx_a _ rfl rfl rfl rfl rfl (by omega)) rfl ?_ | refine TW.rv (RV.idx_az rfl rfl (by omega) rfl rfl (by omega)) rfl ?_)
  (first | refine TW.rv (RV.load rfl (by repeat (first | exact List.Mem.head _ | refine List.Mem.tail _ ?_)) (by first | rfl | assumption) rfl rfl (by first | rfl | assumption)) rfl ?_ | refine TW.rv (RV.load_at rfl rfl rfl (by repeat (first | assumption | refine Mem.Says.cons ?_))) rfl ?_)
  refine TW.rv (RV.move rfl) rfl ?_
  (first | refine TW.rv (RV.rem rfl rfl (by omega) (by omega)) rfl ?_ | refine TW.rv (RV.trem rfl rfl (by omega)) rfl ?_)
  (first | refine TW.rv (RV.shl8 rfl (by first | rfl | exact lit8 _ rfl) rfl rfl) rfl ?_ | refine TW.rv (RV.shl8_i rfl (by first | rfl | exact lit8 _ rfl) rfl (by omega)) rfl ?_)
  refine TW.rv (RV.or8 rfl (by first | rfl | exact lit8 _ rfl) rfl (by first | rfl | exact lit8 _ rfl)) rfl ?_
  (first | refine TW.rv (RV.idx_a _ rfl rfl rfl rfl rfl (by omega)) rfl ?_ | refine TW.rv (RV.idx_az rfl rfl (by omega) rfl rfl (by omega)) rfl ?_)
  refine TW.nil ?_
  (first | refine OW.sv (SV.store rfl (by first | rfl | assumption) rfl rfl rfl (by first | assumption | (simp; done) | (simp; omega) | omega)) ?_ | (refine OW.rot1 ?_; refine OW.sv (SV.store rfl (by first | rfl | assumption) rfl rfl rfl (by first | assumption | (simp; done) | (simp; omega) | omega)) ?_) | (refine OW.rot2 ?_; refine OW.sv (SV.store rfl (by first | rfl | assumption) rfl rfl rfl (by first | assumption | (simp; done) | (simp; omega) | omega)) ?_) | (refine OW.rot3 ?_; refine OW.sv (SV.store rfl (by first | rfl | assumption) rfl rfl rfl (by first | assumption | (simp; done) | (simp; omega) | omega)) ?_) | (refine OW.rot4 ?_; refine OW.sv (SV.store rfl (by first | rfl | assumption) rfl rfl rfl (by first | assumption | (simp; done) | (simp; omega) | omega)) ?_))
  refine OW.nil ?_
  (repeat (first | refine CW.seq ?_ | refine QW.then_n ?_ | refine CW.block ?_ | refine CW.ret ?_ | refine CW.skip ?_ | refine CW.exit ?_ | refine QW.then_x ?_ | refine QW.then_r ?_ | refine QW.block_n ?_ | refine QW.block_xe ?_ | refine QW.block_xn rfl ?_ | refine QW.block_r ?_))
  refine CW.mem (M' := (some b2, blk (u8s (setB b j)) 24) :: (some b4, blk (u8s zeroB) 24) :: M) (fun w m => by rw [← e]; exact m) ?_
  (repeat (first | refine CW.seq ?_ | refine QW.then_n ?_ | refine CW.block ?_ | refine CW.ret ?_ | refine CW.skip ?_ | refine CW.exit ?_ | refine QW.then_x ?_ | refine QW.then_r ?_ | refine QW.block_n ?_ | refine QW.block_xe ?_ | refine QW.block_xn rfl ?_ | refine QW.block_r ?_))
  refine CW.region ?_
  refine OW.rv (RV.loadW rfl (by repeat (first | exact List.Mem.head _ | refine List.Mem.tail _ ?_)) (by first | rfl | assumption) rfl rfl rfl (by first | assumption | rfl | (simp; done) | (simp [*]; done) | (simp [*]; rfl))) rfl ?_
  (first | refine OW.sv (SV.storeW rfl (by first | rfl | assumption) rfl (by first | assumption | exact u8s_one _ | exact i64s_one _ | exact u64s_one _ | exact u32s_one _) rfl (by first | assumption | rfl | (simp; done) | (simp [*]; done) | (simp [*]; rfl)) (by first | assumption | rfl | (simp; done) | (simp [*]; done) | (simp [*]; rfl))) ?_ | (refine OW.rot1 ?_; refine OW.sv (SV.storeW rfl (by first | rfl | assumption) rfl (by first | assumption | exact u8s_one _ | exact i64s_one _ | exact u64s_one _ | exact u32s_one _) rfl (by first | assumption | rfl | (simp; done) | (simp [*]; done) | (simp [*]; rfl)) (by first | assumption | rfl | (simp; done) | (simp [*]; done) | (simp [*]; rfl))) ?_) | (refine OW.rot2 ?_; refine OW.sv (SV.storeW rfl (by first | rfl | assumption) rfl (by first | assumption | exact u8s_one _ | exact i64s_one _ | exact u64s_one _ | exact u32s_one _) rfl (by first | assumption | rfl | (simp; done) | (simp [*]; done) | (simp [*]; rfl)) (by first | assumption | rfl | (simp; done) | (simp [*]; done) | (simp [*]; rfl))) ?_) | (refine OW.rot3 ?_; refine OW.sv (SV.storeW rfl (by first | rfl | assumption) rfl (by first | assumption | exact u8s_one _ | exact i64s_one _ | exact u64s_one _ | exact u32s_one _) rfl (by first | assumption | rfl | (simp; done) | (simp [*]; done) | (simp [*]; rfl)) (by first | assumption | rfl | (simp; done) | (simp [*]; done) | (simp [*]; rfl))) ?_) | (refine OW.rot4 ?_; refine OW.sv (SV.storeW rfl (by first | rfl | assumption) rfl (by first | assumption | exact u8s_one _ | exact i64s_one _ | exact u64s_one _ | exact u32s_one _) rfl (by first | assumption | rfl | (simp; done) | (simp [*]; done) | (simp [*]; rfl)) (by first | assumption | rfl | (simp; done) | (simp [*]; done) | (simp [*]; rfl))) ?_) | (refine OW.rot5 ?_; refine OW.sv (SV.storeW rfl (by first | rfl | assumption) rfl (by first | assumption | exact u8s_one _ | exact i64s_one _ | exact u64s_one _ | exact u32s_one _) rfl (by first | assumption | rfl | (simp; done) | (simp [*]; done) | (simp [*]; rfl)) (by first | assumption | rfl | (simp; done) | (simp [*]; done) | (simp [*]; rfl))) ?_) | (refine OW.rot6 ?_; refine OW.sv (SV.storeW rfl (by first | rfl | assumption) rfl (by first | assumption | exact u8s_one _ | exact i64s_one _ | exact u64s_one _ | exact u32s_one _) rfl (by first | assumption | rfl | (simp; done) | (simp [*]; done) | (simp [*]; rfl)) (by first | assumption | rfl | (simp; done) | (simp [*]; done) | (simp [*]; rfl))) ?_))
  refine OW.nil ?_
  (repeat (first | refine CW.seq ?_ | refine QW.then_n ?_ | refine CW.block ?_ | refine CW.ret ?_ | refine CW.skip ?_ | refine CW.exit ?_ | refine QW.then_x ?_ | refine QW.then_r ?_ | refine QW.block_n ?_ | refine QW.block_xe ?_ | refine QW.block_xn rfl ?_ | refine QW.block_r ?_))
  exact QW.retC1 rfl () trivial rfl (List.Mem.head _) rfl rfl rfl rfl (by rw [u8s_length]; exact (setB_length b j).trans hb) rfl (fun _ m => m.tail.tail)

theorem make_does (w0 : World) (M : List Ent) (A : Option Addr) (ca : Nat) (xs : List Int) (hA : Mem.Says w0 M (fun w => Rd w A (i64s xs))) {la : Nat} (hla : xs.length = la) (hx : la ≤ 9223372036854775807) :
    Does Try.prog 6 [.slice A la ca] w0 M (τ := Unit) (fun _ => True) (fun _ => .tuple #[.agg (u8s (mkB xs)).toArray, .int .i64 (erB xs)]) (fun q => M) := by
  subst hla
  refine Does.of_mem fun w1 m1 => ?_
  have sA : ∀ i, i < xs.length → A.isSome = true := fun i hi => Rd.someOf (f := .int .i64) (hA w1 m1) hi
  refine Does.enter Try.func6 rfl Try.ntmps6 rfl ?_
  (repeat (first | refine CW.seq ?_ | refine QW.then_n ?_ | refine CW.block ?_ | refine CW.ret ?_ | refine CW.skip ?_ | refine CW.exit ?_ | refine QW.then_x ?_ | refine QW.then_r ?_ | refine QW.block_n ?_ | refine QW.block_xe ?_ | refine QW.block_xn rfl ?_ | refine QW.block_r ?_))
  refine CW.region ?_
  refine OW.alloc (l := u8s (List.replicate 256 0#8)) rfl (by rw [← u8s_rep']; rfl) rfl (fun b2 => ?_)
  refine OW.rv (RV.assign rfl) rfl ?_
  refine OW.nil ?_
  (repeat (first | refine CW.seq ?_ | refine QW.then_n ?_ | refine CW.block ?_ | refine CW.ret ?_ | refine CW.skip ?_ | refine CW.exit ?_ | refine QW.then_x ?_ | refine QW.then_r ?_ | refine QW.block_n ?_ | refine QW.block_xe ?_ | refine QW.block_xn rfl ?_ | refine QW.block_r ?_))
  (repeat (first | refine CW.seq ?_ | refine QW.then_n ?_ | refine CW.block ?_ | refine CW.ret ?_ | refine CW.skip ?_ | refine CW.exit ?_ | refine QW.then_x ?_ | refine QW.then_r ?_ | refine QW.block_n ?_ | refine QW.block_xe ?_ | refine QW.block_xn rfl ?_ | refine QW.block_r ?_))
  refine CW.region ?_
  refine OW.alloc (l := u8s (List.replicate 256 0#8)) rfl (by rw [← u8s_rep']; rfl) rfl (fun b4 => ?_)
  refine OW.nil ?_
  (repeat (first | refine CW.seq ?_ | refine QW.then_n ?_ | refine CW.block ?_ | refine CW.ret ?_ | refine CW.skip ?_ | refine CW.exit ?_ | refine QW.then_x ?_ | refine QW.then_r ?_ | refine QW.block_n ?_ | refine QW.block_xe ?_ | refine QW.block_xn rfl ?_ | refine QW.block_r ?_))
  (repeat (first | refine CW.seq ?_ | refine QW.then_n ?_ | refine CW.block ?_ | refine CW.ret ?_ | refine CW.skip ?_ | refine CW.exit ?_ | refine QW.then_x ?_ | refine QW.then_r ?_ | refine QW.block_n ?_ | refine QW.block_xe ?_ | refine QW.block_xn rfl ?_ | refine QW.block_r ?_))
  refine CW.region ?_
  refine OW.rv (RV.move rfl) rfl ?_
  refine OW.rv (RV.len rfl rfl) rfl ?_
  refine OW.rv (RV.move rfl) rfl ?_
  refine OW.nil ?_
  (repeat (first | refine CW.seq ?_ | refine QW.then_n ?_ | refine CW.block ?_ | refine CW.ret ?_ | refine CW.skip ?_ | refine CW.exit ?_ | refine QW.then_x ?_ | refine QW.then_r ?_ | refine QW.block_n ?_ | refine QW.block_xe ?_ | refine QW.block_xn rfl ?_ | refine QW.block_r ?_))
  refine CW.loop (σ := Nat) (fun i => i ≤ xs.length ∧ ∀ j, j < i → 0 ≤ xs.getD j 0 ∧ xs.getD j 0 < 2048) (fun i => [(2, ptr (some b2) 0), (3, .int .i64 0), (4, ptr (some b4) 0), (7, .slice A xs.length ca), (8, .int .i64 (xs.length : Int)), (9, .int .i64 (i : Int))])
    (fun i => (some b4, blk (u8s (foldB zeroB (xs.take i))) 24) :: (some b2, blk (u8s zeroB) 24) :: M) (fun i => xs.length - i) 0 ⟨by omega, by intro j hj; omega⟩ ⟨rfl, rfl, rfl, rfl, rfl, rfl, trivial⟩ (fun _ m => m) ?_
  rintro i ⟨hi, hj⟩
  have hl : (foldB zeroB (xs.take i)).length = 256 := by rw [foldB_length]; exact List.length_replicate ..
  have hz : zeroB.length = 256 := List.length_replicate ..
  (repeat (first | refine CW.seq ?_ | refine QW.then_n ?_ | refine CW.block ?_ | refine CW.ret ?_ | refine CW.skip ?_ | refine CW.exit ?_ | refine QW.then_x ?_ | refine QW.then_r ?_ | refine QW.block_n ?_ | refine QW.block_xe ?_ | refine QW.block_xn rfl ?_ | refine QW.block_r ?_))
  refine CW.region ?_
  refine OW.rv (RV.lss rfl rfl) rfl ?_
  refine OW.nil ?_
  (repeat (first | refine CW.seq ?_ | refine QW.then_n ?_ | refine CW.block ?_ | refine CW.ret ?_ | refine CW.skip ?_ | refine CW.exit ?_ | refine QW.then_x ?_ | refine QW.then_r ?_ | refine QW.block_n ?_ | refine QW.block_xe ?_ | refine QW.block_xn rfl ?_ | refine QW.block_r ?_))
  (first | refine CW.cond_t rfl ?_ | refine CW.cond_f rfl ?_ | refine CW.cond_p rfl (fun hlt => ?_) (fun hlt => ?_) | refine CW.cond_np rfl (fun hlt => ?_) (fun hlt => ?_) | refine CW.cond rfl (fun hlt => ?_) (fun hlt => ?_))
  · have hiA : i < xs.length := by omega
    have s1 := sA i hiA
    have l1 : Mem.Says w0 M (fun w => w.cell? ((A.getD default).add i) = some (.int .i64 (xs.getD i 0))) := fun w m => (hA w m).cell (i64s_get hiA)
    (repeat (first | refine CW.seq ?_ | refine QW.then_n ?_ | refine CW.block ?_ | refine CW.ret ?_ | refine CW.skip ?_ | refine CW.exit ?_ | refine QW.then_x ?_ | refine QW.then_r ?_ | refine QW.block_n ?_ | refine QW.block_xe ?_ | refine QW.block_xn rfl ?_ | refine QW.block_r ?_))
    refine CW.region ?_
    (first | refine OW.rv (RV.idx_o _ rfl rfl rfl rfl rfl (by first | rfl | assumption) (by omega)) rfl ?_ | refine OW.rv (RV.idx_r _ rfl rfl rfl rfl rfl (by first | rfl | assumption) (by omega)) rfl ?_ | refine OW.rv (RV.idx_oz rfl rfl (by omega) rfl rfl (by first | rfl | assumption) (by omega)) rfl ?_ | refine OW.rv (RV.idx_rz rfl rfl (by omega) rfl rfl (by first | rfl | assumption) (by omega)) rfl ?_)
    (first | refine OW.rv (RV.load rfl (by repeat (first | exact List.Mem.head _ | refine List.Mem.tail _ ?_)) (by first | rfl | assumption) rfl rfl (by first | rfl | assumption)) rfl ?_ | refine OW.rv (RV.load_at rfl rfl rfl (by repeat (first | assumption | refine Mem.Says.cons ?_))) rfl ?_)
    refine OW.rv (RV.assign rfl) rfl ?_
    refine OW.nil ?_
    (repeat (first | refine CW.seq ?_ | refine QW.then_n ?_ | refine CW.block ?_ | refine CW.ret ?_ | refine CW.skip ?_ | refine CW.exit ?_ | refine QW.then_x ?_ | refine QW.then_r ?_ | refine QW.block_n ?_ | refine QW.block_xe ?_ | refine QW.block_xn rfl ?_ | refine QW.block_r ?_))
    by_cases hb : 0 ≤ xs.getD i 0 ∧ xs.getD i 0 < 2048
    · (repeat (first | refine CW.seq ?_ | refine QW.then_n ?_ | refine CW.block ?_ | refine CW.ret ?_ | refine CW.skip ?_ | refine CW.exit ?_ | refine QW.then_x ?_ | refine QW.then_r ?_ | refine QW.block_n ?_ | refine QW.block_xe ?_ | refine QW.block_xn rfl ?_ | refine QW.block_r ?_))
      refine CW.region ?_
      refine OW.rv (RV.move rfl) rfl ?_
      (first | refine OW.rv (RV.lss_t rfl rfl (by omega)) rfl ?_ | refine OW.rv (RV.lss_f rfl rfl (by omega)) rfl ?_ | refine OW.rv (RV.lss rfl rfl) rfl ?_)
      refine OW.rv (RV.move rfl) rfl ?_
      (first | (refine OW.want rfl ?_; refine OW.rv (RV.move rfl) rfl ?_) | refine OW.skip rfl rfl rfl ?_)
      (first | (refine OW.want rfl ?_; (first | refine OW.rv (RV.geq_t rfl rfl (by omega)) rfl ?_ | refine OW.rv (RV.geq_f rfl rfl (by omega)) rfl ?_ | refine OW.rv (RV.geq rfl rfl) rfl ?_)) | refine OW.skip rfl rfl rfl ?_)
      (first | refine OW.rv (RV.pick_t rfl rfl rfl) rfl ?_ | refine OW.rv (RV.pick_f rfl rfl rfl) rfl ?_ | refine OW.rv (RV.pick rfl rfl rfl) rfl ?_)
      refine OW.nil ?_
      (repeat (first | refine CW.seq ?_ | refine QW.then_n ?_ | refine CW.block ?_ | refine CW.ret ?_ | refine CW.skip ?_ | refine CW.exit ?_ | refine QW.then_x ?_ | refine QW.then_r ?_ | refine QW.block_n ?_ | refine QW.block_xe ?_ | refine QW.block_xn rfl ?_ | refine QW.block_r ?_))
      (first | refine CW.cond_t rfl ?_ | refine CW.cond_f rfl ?_ | refine CW.cond_p rfl (fun hq => ?_) (fun hq => ?_) | refine CW.cond_np rfl (fun hq => ?_) (fun hq => ?_) | refine CW.cond rfl (fun hq => ?_) (fun hq => ?_))
      (repeat (first | refine CW.seq ?_ | refine QW.then_n ?_ | refine CW.block ?_ | refine CW.ret ?_ | refine CW.skip ?_ | refine CW.exit ?_ | refine QW.then_x ?_ | refine QW.then_r ?_ | refine QW.block_n ?_ | refine QW.block_xe ?_ | refine QW.block_xn rfl ?_ | refine QW.block_r ?_))
      refine CW.region ?_
      refine OW.rv (RV.loadW rfl (by repeat (first | exact List.Mem.head _ | refine List.Mem.tail _ ?_)) (by first | rfl | assumption) rfl rfl rfl (by first | assumption | rfl | (simp; done) | (simp [*]; done) | (simp [*]; rfl))) rfl ?_
      refine OW.rv (RV.move rfl) rfl ?_
      refine OW.call Try.call18 rfl (set_does w0 _ _ hl _ hb.1 hb.2) rfl (fun u hu => ?_)
      (first | refine OW.sv (SV.storeW rfl (by first | rfl | assumption) rfl (by first | assumption | exact u8s_one _ | exact i64s_one _ | exact u64s_one _ | exact u32s_one _) rfl (by first | assumption | rfl | (simp; done) | (simp [*]; done) | (simp [*]; rfl)) (by first | assumption | rfl | (simp; done) | (simp [*]; done) | (simp [*]; rfl))) ?_ | (refine OW.rot1 ?_; refine OW.sv (SV.storeW rfl (by first | rfl | assumption) rfl (by first | assumption | exact u8s_one _ | exact i64s_one _ | exact u64s_one _ | exact u32s_one _) rfl (by first | assumption | rfl | (simp; done) | (simp [*]; done) | (simp [*]; rfl)) (by first | assumption | rfl | (simp; done) | (simp [*]; done) | (simp [*]; rfl))) ?_) | (refine OW.rot2 ?_; refine OW.sv (SV.storeW rfl (by first | rfl | assumption) rfl (by first | assumption | exact u8s_one _ | exact i64s_one _ | exact u64s_one _ | exact u32s_one _) rfl (by first | assumption | rfl | (simp; done) | (simp [*]; done) | (simp [*]; rfl)) (by first | assumption | rfl | (simp; done) | (simp [*]; done) | (simp [*]; rfl))) ?_) | (refine OW.rot3 ?_; refine OW.sv (SV.storeW rfl (by first | rfl | assumption) rfl (by first | assumption | exact u8s_one _ | exact i64s_one _ | exact u64s_one _ | exact u32s_one _) rfl (by first | assumption | rfl | (simp; done) | (simp [*]; done) | (simp [*]; rfl)) (by first | assumption | rfl | (simp; done) | (simp [*]; done) | (simp [*]; rfl))) ?_) | (refine OW.rot4 ?_; refine OW.sv (SV.storeW rfl (by first | rfl | assumption) rfl (by first | assumption | exact u8s_one _ | exact i64s_one _ | exact u64s_one _ | exact u32s_one _) rfl (by first | assumption | rfl | (simp; done) | (simp [*]; done) | (simp [*]; rfl)) (by first | assumption | rfl | (simp; done) | (simp [*]; done) | (simp [*]; rfl))) ?_) | (refine OW.rot5 ?_; refine OW.sv (SV.storeW rfl (by first | rfl | assumption) rfl (by first | assumption | exact u8s_one _ | exact i64s_one _ | exact u64s_one _ | exact u32s_one _) rfl (by first | assumption | rfl | (simp; done) | (simp [*]; done) | (simp [*]; rfl)) (by first | assumption | rfl | (simp; done) | (simp [*]; done) | (simp [*]; rfl))) ?_) | (refine OW.rot6 ?_; refine OW.sv (SV.storeW rfl (by first | rfl | assumption) rfl (by first | assumption | exact u8s_one _ | exact i64s_one _ | exact u64s_one _ | exact u32s_one _) rfl (by first | assumption | rfl | (simp; done) | (simp [*]; done) | (simp [*]; rfl)) (by first | assumption | rfl | (simp; done) | (simp [*]; done) | (simp [*]; rfl))) ?_))
      refine OW.nil ?_
      (repeat (first | refine CW.seq ?_ | refine QW.then_n ?_ | refine CW.block ?_ | refine CW.ret ?_ | refine CW.skip ?_ | refine CW.exit ?_ | refine QW.then_x ?_ | refine QW.then_r ?_ | refine QW.block_n ?_ | refine QW.block_xe ?_ | refine QW.block_xn rfl ?_ | refine QW.block_r ?_))
      (repeat (first | refine CW.seq ?_ | refine QW.then_n ?_ | refine CW.block ?_ | refine CW.ret ?_ | refine CW.skip ?_ | refine CW.exit ?_ | refine QW.then_x ?_ | refine QW.then_r ?_ | refine QW.block_n ?_ | refine QW.block_xe ?_ | refine QW.block_xn rfl ?_ | refine QW.block_r ?_))
      refine CW.region ?_
      refine OW.rv (RV.add rfl rfl (by omega)) rfl ?_
      refine OW.rv (RV.move rfl) rfl ?_
      refine OW.nil ?_
      (repeat (first | refine CW.seq ?_ | refine QW.then_n ?_ | refine CW.block ?_ | refine CW.ret ?_ | refine CW.skip ?_ | refine CW.exit ?_ | refine QW.then_x ?_ | refine QW.then_r ?_ | refine QW.block_n ?_ | refine QW.block_xe ?_ | refine QW.block_xn rfl ?_ | refine QW.block_r ?_))
      refine QW.again (i + 1) ⟨by omega, ?_⟩ (by omega) ⟨rfl, rfl, rfl, rfl, rfl, rfl, trivial⟩ (fun _ m => by rw [foldB_take hiA]; exact m)
      intro j hj'
      rcases Nat.lt_or_ge j i with h1 | h1
      · exact hj j h1
      · obtain rfl : j = i := by omega
        exact hb
    · obtain ⟨e1, e2⟩ := mkB_bad hiA hb
      rcases Int.lt_or_le (xs.getD i 0) 0 with h0 | h0
      · (repeat (first | refine CW.seq ?_ | refine QW.then_n ?_ | refine CW.block ?_ | refine CW.ret ?_ | refine CW.skip ?_ | refine CW.exit ?_ | refine QW.then_x ?_ | refine QW.then_r ?_ | refine QW.block_n ?_ | refine QW.block_xe ?_ | refine QW.block_xn rfl ?_ | refine QW.block_r ?_))
        refine CW.region ?_
        refine OW.rv (RV.move rfl) rfl ?_
        (first | refine OW.rv (RV.lss_t rfl rfl (by omega)) rfl ?_ | refine OW.rv (RV.lss_f rfl rfl (by omega)) rfl ?_ | refine OW.rv (RV.lss rfl rfl) rfl ?_)
        refine OW.rv (RV.move rfl) rfl ?_
        (first | (refine OW.want rfl ?_; refine OW.rv (RV.move rfl) rfl ?_) | refine OW.skip rfl rfl rfl ?_)
        (first | (refine OW.want rfl ?_; (first | refine OW.rv (RV.geq_t rfl rfl (by omega)) rfl ?_ | refine OW.rv (RV.geq_f rfl rfl (by omega)) rfl ?_ | refine OW.rv (RV.geq rfl rfl) rfl ?_)) | refine OW.skip rfl rfl rfl ?_)
        (first | refine OW.rv (RV.pick_t rfl rfl rfl) rfl ?_ | refine OW.rv (RV.pick_f rfl rfl rfl) rfl ?_ | refine OW.rv (RV.pick rfl rfl rfl) rfl ?_)
        refine OW.nil ?_
        (repeat (first | refine CW.seq ?_ | refine QW.then_n ?_ | refine CW.block ?_ | refine CW.ret ?_ | refine CW.skip ?_ | refine CW.exit ?_ | refine QW.then_x ?_ | refine QW.then_r ?_ | refine QW.block_n ?_ | refine QW.block_xe ?_ | refine QW.block_xn rfl ?_ | refine QW.block_r ?_))
        (first | refine CW.cond_t rfl ?_ | refine CW.cond_f rfl ?_ | refine CW.cond_p rfl (fun hq => ?_) (fun hq => ?_) | refine CW.cond_np rfl (fun hq => ?_) (fun hq => ?_) | refine CW.cond rfl (fun hq => ?_) (fun hq => ?_))
        (repeat (first | refine CW.seq ?_ | refine QW.then_n ?_ | refine CW.block ?_ | refine CW.ret ?_ | refine CW.skip ?_ | refine CW.exit ?_ | refine QW.then_x ?_ | refine QW.then_r ?_ | refine QW.block_n ?_ | refine QW.block_xe ?_ | refine QW.block_xn rfl ?_ | refine QW.block_r ?_))
        refine CW.region ?_
        refine OW.rv (RV.build0 (l := u8s (List.replicate 256 0#8)) rfl rfl rfl (by rw [← u8s_rep']; rfl)) rfl ?_
        (first | refine OW.sv (SV.storeW rfl (by first | rfl | assumption) rfl (by first | assumption | exact u8s_one _ | exact i64s_one _ | exact u64s_one _ | exact u32s_one _) rfl (by first | assumption | rfl | (simp; done) | (simp [*]; done) | (simp [*]; rfl)) (by first | assumption | rfl | (simp; done) | (simp [*]; done) | (simp [*]; rfl))) ?_ | (refine OW.rot1 ?_; refine OW.sv (SV.storeW rfl (by first | rfl | assumption) rfl (by first | assumption | exact u8s_one _ | exact i64s_one _ | exact u64s_one _ | exact u32s_one _) rfl (by first | assumption | rfl | (simp; done) | (simp [*]; done) | (simp [*]; rfl)) (by first | assumption | rfl | (simp; done) | (simp [*]; done) | (simp [*]; rfl))) ?_) | (refine OW.rot2 ?_; refine OW.sv (SV.storeW rfl (by first | rfl | assumption) rfl (by first | assumption | exact u8s_one _ | exact i64s_one _ | exact u64s_one _ | exact u32s_one _) rfl (by first | assumption | rfl | (simp; done) | (simp [*]; done) | (simp [*]; rfl)) (by first | assumption | rfl | (simp; done) | (simp [*]; done) | (simp [*]; rfl))) ?_) | (refine OW.rot3 ?_; refine OW.sv (SV.storeW rfl (by first | rfl | assumption) rfl (by first | assumption | exact u8s_one _ | exact i64s_one _ | exact u64s_one _ | exact u32s_one _) rfl (by first | assumption | rfl | (simp; done) | (simp [*]; done) | (simp [*]; rfl)) (by first | assumption | rfl | (simp; done) | (simp [*]; done) | (simp [*]; rfl))) ?_) | (refine OW.rot4 ?_; refine OW.sv (SV.storeW rfl (by first | rfl | assumption) rfl (by first | assumption | exact u8s_one _ | exact i64s_one _ | exact u64s_one _ | exact u32s_one _) rfl (by first | assumption | rfl | (simp; done) | (simp [*]; done) | (simp [*]; rfl)) (by first | assumption | rfl | (simp; done) | (simp [*]; done) | (simp [*]; rfl))) ?_) | (refine OW.rot5 ?_; refine OW.sv (SV.storeW rfl (by first | rfl | assumption) rfl (by first | assumption | exact u8s_one _ | exact i64s_one _ | exact u64s_one _ | exact u32s_one _) rfl (by first | assumption | rfl | (simp; done) | (simp [*]; done) | (simp [*]; rfl)) (by first | assumption | rfl | (simp; done) | (simp [*]; done) | (simp [*]; rfl))) ?_) | (refine OW.rot6 ?_; refine OW.sv (SV.storeW rfl (by first | rfl | assumption) rfl (by first | assumption | exact u8s_one _ | exact i64s_one _ | exact u64s_one _ | exact u32s_one _) rfl (by first | assumption | rfl | (simp; done) | (simp [*]; done) | (simp [*]; rfl)) (by first | assumption | rfl | (simp; done) | (simp [*]; done) | (simp [*]; rfl))) ?_))
        refine OW.rv (RV.assign rfl) rfl ?_
        refine OW.nil ?_
        (repeat (first | refine CW.seq ?_ | refine QW.then_n ?_ | refine CW.block ?_ | refine CW.ret ?_ | refine CW.skip ?_ | refine CW.exit ?_ | refine QW.then_x ?_ | refine QW.then_r ?_ | refine QW.block_n ?_ | refine QW.block_xe ?_ | refine QW.block_xn rfl ?_ | refine QW.block_r ?_))
        exact QW.retC2 rfl () trivial rfl rfl (List.Mem.head _) rfl rfl rfl rfl (u8s_length _) (by rw [e1, e2]; rfl) (fun _ m => m.tail.tail)
      · (repeat (first | refine CW.seq ?_ | refine QW.then_n ?_ | refine CW.block ?_ | refine CW.ret ?_ | refine CW.skip ?_ | refine CW.exit ?_ | refine QW.then_x ?_ | refine QW.then_r ?_ | refine QW.block_n ?_ | refine QW.block_xe ?_ | refine QW.block_xn rfl ?_ | refine QW.block_r ?_))
        refine CW.region ?_
        refine OW.rv (RV.move rfl) rfl ?_
        (first | refine OW.rv (RV.lss_t rfl rfl (by omega)) rfl ?_ | refine OW.rv (RV.lss_f rfl rfl (by omega)) rfl ?_ | refine OW.rv (RV.lss rfl rfl) rfl ?_)
        refine OW.rv (RV.move rfl) rfl ?_
        (first | (refine OW.want rfl ?_; refine OW.rv (RV.move rfl) rfl ?_) | refine OW.skip rfl rfl rfl ?_)
        (first | (refine OW.want rfl ?_; (first | refine OW.rv (RV.geq_t rfl rfl (by omega)) rfl ?_ | refine OW.rv (RV.geq_f rfl rfl (by omega)) rfl ?_ | refine OW.rv (RV.geq rfl rfl) rfl ?_)) | refine OW.skip rfl rfl rfl ?_)
        (first | refine OW.rv (RV.pick_t rfl rfl rfl) rfl ?_ | refine OW.rv (RV.pick_f rfl rfl rfl) rfl ?_ | refine OW.rv (RV.pick rfl rfl rfl) rfl ?_)
        refine OW.nil ?_
        (repeat (first | refine CW.seq ?_ | refine QW.then_n ?_ | refine CW.block ?_ | refine CW.ret ?_ | refine CW.skip ?_ | refine CW.exit ?_ | refine QW.then_x ?_ | refine QW.then_r ?_ | refine QW.block_n ?_ | refine QW.block_xe ?_ | refine QW.block_xn rfl ?_ | refine QW.block_r ?_))
        (first | refine CW.cond_t rfl ?_ | refine CW.cond_f rfl ?_ | refine CW.cond_p rfl (fun hq => ?_) (fun hq => ?_) | refine CW.cond_np rfl (fun hq => ?_) (fun hq => ?_) | refine CW.cond rfl (fun hq => ?_) (fun hq => ?_))
        (repeat (first | refine CW.seq ?_ | refine QW.then_n ?_ | refine CW.block ?_ | refine CW.ret ?_ | refine CW.skip ?_ | refine CW.exit ?_ | refine QW.then_x ?_ | refine QW.then_r ?_ | refine QW.block_n ?_ | refine QW.block_xe ?_ | refine QW.block_xn rfl ?_ | refine QW.block_r ?_))
        refine CW.region ?_
        refine OW.rv (RV.build0 (l := u8s (List.replicate 256 0#8)) rfl rfl rfl (by rw [← u8s_rep']; rfl)) rfl ?_
        (first | refine OW.sv (SV.storeW rfl (by first | rfl | assumption) rfl (by first | assumption | exact u8s_one _ | exact i64s_one _ | exact u64s_one _ | exact u32s_one _) rfl (by first | assumption | rfl | (simp; done) | (simp [*]; done) | (simp [*]; rfl)) (by first | assumption | rfl | (simp; done) | (simp [*]; done) | (simp [*]; rfl))) ?_ | (refine OW.rot1 ?_; refine OW.sv (SV.storeW rfl (by first | rfl | assumption) rfl (by first | assumption | exact u8s_one _ | exact i64s_one _ | exact u64s_one _ | exact u32s_one _) rfl (by first | assumption | rfl | (simp; done) | (simp [*]; done) | (simp [*]; rfl)) (by first | assumption | rfl | (simp; done) | (simp [*]; done) | (simp [*]; rfl))) ?_) | (refine OW.rot2 ?_; refine OW.sv (SV.storeW rfl (by first | rfl | assumption) rfl (by first | assumption | exact u8s_one _ | exact i64s_one _ | exact u64s_one _ | exact u32s_one _) rfl (by first | assumption | rfl | (simp; done) | (simp [*]; done) | (simp [*]; rfl)) (by first | assumption | rfl | (simp; done) | (simp [*]; done) | (simp [*]; rfl))) ?_) | (refine OW.rot3 ?_; refine OW.sv (SV.storeW rfl (by first | rfl | assumption) rfl (by first | assumption | exact u8s_one _ | exact i64s_one _ | exact u64s_one _ | exact u32s_one _) rfl (by first | assumption | rfl | (simp; done) | (simp [*]; done) | (simp [*]; rfl)) (by first | assumption | rfl | (simp; done) | (simp [*]; done) | (simp [*]; rfl))) ?_) | (refine OW.rot4 ?_; refine OW.sv (SV.storeW rfl (by first | rfl | assumption) rfl (by first | assumption | exact u8s_one _ | exact i64s_one _ | exact u64s_one _ | exact u32s_one _) rfl (by first | assumption | rfl | (simp; done) | (simp [*]; done) | (simp [*]; rfl)) (by first | assumption | rfl | (simp; done) | (simp [*]; done) | (simp [*]; rfl))) ?_) | (refine OW.rot5 ?_; refine OW.sv (SV.storeW rfl (by first | rfl | assumption) rfl (by first | assumption | exact u8s_one _ | exact i64s_one _ | exact u64s_one _ | exact u32s_one _) rfl (by first | assumption | rfl | (simp; done) | (simp [*]; done) | (simp [*]; rfl)) (by first | assumption | rfl | (simp; done) | (simp [*]; done) | (simp [*]; rfl))) ?_) | (refine OW.rot6 ?_; refine OW.sv (SV.storeW rfl (by first | rfl | assumption) rfl (by first | assumption | exact u8s_one _ | exact i64s_one _ | exact u64s_one _ | exact u32s_one _) rfl (by first | assumption | rfl | (simp; done) | (simp [*]; done) | (simp [*]; rfl)) (by first | assumption | rfl | (simp; done) | (simp [*]; done) | (simp [*]; rfl))) ?_))
        refine OW.rv (RV.assign rfl) rfl ?_
        refine OW.nil ?_
        (repeat (first | refine CW.seq ?_ | refine QW.then_n ?_ | refine CW.block ?_ | refine CW.ret ?_ | refine CW.skip ?_ | refine CW.exit ?_ | refine QW.then_x ?_ | refine QW.then_r ?_ | refine QW.block_n ?_ | refine QW.block_xe ?_ | refine QW.block_xn rfl ?_ | refine QW.block_r ?_))
        exact QW.retC2 rfl () trivial rfl rfl (List.Mem.head _) rfl rfl rfl rfl (u8s_length _) (by rw [e1, e2]; rfl) (fun _ m => m.tail.tail)
  · have hie : i = xs.length := by omega
    subst hie
    obtain ⟨e1, e2⟩ := mkB_good (fun j hj' => hj j hj')
    rw [List.take_length] at hl ⊢
    (repeat (first | refine CW.seq ?_ | refine QW.then_n ?_ | refine CW.block ?_ | refine CW.ret ?_ | refine CW.skip ?_ | refine CW.exit ?_ | refine QW.then_x ?_ | refine QW.then_r ?_ | refine QW.block_n ?_ | refine QW.block_xe ?_ | refine QW.block_xn rfl ?_ | refine QW.block_r ?_))
    refine CW.region ?_
    refine OW.rv (RV.loadW rfl (by repeat (first | exact List.Mem.head _ | refine List.Mem.tail _ ?_)) (by first | rfl | assumption) rfl rfl rfl (by first | assumption | rfl | (simp; done) | (simp [*]; done) | (simp [*]; rfl))) rfl ?_
    (first | refine OW.sv (SV.storeW rfl (by first | rfl | assumption) rfl (by first | assumption | exact u8s_one _ | exact i64s_one _ | exact u64s_one _ | exact u32s_one _) rfl (by first | assumption | rfl | (simp; done) | (simp [*]; done) | (simp [*]; rfl)) (by first | assumption | rfl | (simp; done) | (simp [*]; done) | (simp [*]; rfl))) ?_ | (refine OW.rot1 ?_; refine OW.sv (SV.storeW rfl (by first | rfl | assumption) rfl (by first | assumption | exact u8s_one _ | exact i64s_one _ | exact u64s_one _ | exact u32s_one _) rfl (by first | assumption | rfl | (simp; done) | (simp [*]; done) | (simp [*]; rfl)) (by first | assumption | rfl | (simp; done) | (simp [*]; done) | (simp [*]; rfl))) ?_) | (refine OW.rot2 ?_; refine OW.sv (SV.storeW rfl (by first | rfl | assumption) rfl (by first | assumption | exact u8s_one _ | exact i64s_one _ | exact u64s_one _ | exact u32s_one _) rfl (by first | assumption | rfl | (simp; done) | (simp [*]; done) | (simp [*]; rfl)) (by first | assumption | rfl | (simp; done) | (simp [*]; done) | (simp [*]; rfl))) ?_) | (refine OW.rot3 ?_; refine OW.sv (SV.storeW rfl (by first | rfl | assumption) rfl (by first | assumption | exact u8s_one _ | exact i64s_one _ | exact u64s_one _ | exact u32s_one _) rfl (by first | assumption | rfl | (simp; done) | (simp [*]; done) | (simp [*]; rfl)) (by first | assumption | rfl | (simp; done) | (simp [*]; done) | (simp [*]; rfl))) ?_) | (refine OW.rot4 ?_; refine OW.sv (SV.storeW rfl (by first | rfl | assumption) rfl (by first | assumption | exact u8s_one _ | exact i64s_one _ | exact u64s_one _ | exact u32s_one _) rfl (by first | assumption | rfl | (simp; done) | (simp [*]; done) | (simp [*]; rfl)) (by first | assumption | rfl | (simp; done) | (simp [*]; done) | (simp [*]; rfl))) ?_) | (refine OW.rot5 ?_; refine OW.sv (SV.storeW rfl (by first | rfl | assumption) rfl (by first | assumption | exact u8s_one _ | exact i64s_one _ | exact u64s_one _ | exact u32s_one _) rfl (by first | assumption | rfl | (simp; done) | (simp [*]; done) | (simp [*]; rfl)) (by first | assumption | rfl | (simp; done) | (simp [*]; done) | (simp [*]; rfl))) ?_) | (refine OW.rot6 ?_; refine OW.sv (SV.storeW rfl (by first | rfl | assumption) rfl (by first | assumption | exact u8s_one _ | exact i64s_one _ | exact u64s_one _ | exact u32s_one _) rfl (by first | assumption | rfl | (simp; done) | (simp [*]; done) | (simp [*]; rfl)) (by first | assumption | rfl | (simp; done) | (simp [*]; done) | (simp [*]; rfl))) ?_))
    refine OW.rv (RV.assign rfl) rfl ?_
    refine OW.nil ?_
    (repeat (first | refine CW.seq ?_ | refine QW.then_n ?_ | refine CW.block ?_ | refine CW.ret ?_ | refine CW.skip ?_ | refine CW.exit ?_ | refine QW.then_x ?_ | refine QW.then_r ?_ | refine QW.block_n ?_ | refine QW.block_xe ?_ | refine QW.block_xn rfl ?_ | refine QW.block_r ?_))
    exact QW.retC2 rfl () trivial rfl rfl (List.Mem.head _) rfl rfl rfl rfl ((u8s_length _).trans hl) (by rw [e1, e2]) (fun _ m => m.tail.tail)
end Go.Fw.Try
