/- Part of a proof: rules that its law uses. -/
import Derived.Test.YtgonajfngmeanaaDoorShaB
namespace Go.Fw.Tryd
open Go Go.Proofs
set_option maxRecDepth 100000
set_option linter.unusedVariables false
attribute [local irreducible] wTo
def TabAt (w0 : World) (g : Nat) (K : List (BitVec 32)) : Prop := ∀ j u, (u32s K)[j]? = some u → w0.cell? ((⟨g, 0, none⟩ : Addr).add j) = some u
theorem TabAt.says {w0 : World} {g : Nat} {K : List (BitVec 32)} (h : TabAt w0 g K) {M : List Ent} : Mem.Says w0 M (fun w => ∀ j u, (u32s K)[j]? = some u → w.cell? ((⟨g, 0, none⟩ : Addr).add j) = some u) := fun w m j u hj => m.oldSome (h j u hj)
theorem words_is (w0 : World) (M : List Ent) (A : Option Addr) (ca : Nat) (bs : List (BitVec 8)) (hA : Mem.Says w0 M (fun w => Rd w A (u8s bs))) (hl : bs.length = 64) (hca : 64 ≤ ca) {W : List (BitVec 32)} (hW : wTo bs 48 = W) :
    Does Tryd.prog 50 [.slice A 64 ca] w0 M (τ := Unit) (fun _ => True) (fun _ => .agg (u32s W).toArray) (fun _ => M) := hW ▸ words_does w0 M A ca bs hA hl hca
theorem behind_does (w0 : World) (M : List Ent) (K : List (BitVec 32)) (hK : TabAt w0 1 K) (hKl : K.length = 64) (s : List (BitVec 32)) (hs : s.length = 8) (A : Option Addr) (ca : Nat) (bs : List (BitVec 8)) (hA : Mem.Says w0 M (fun w => Rd w A (u8s bs))) (hl : bs.length = 64) (hca : 64 ≤ ca) :
    Does Tryd.prog 39 [.agg (u32s s).toArray, .slice A 64 ca] w0 M (τ := Unit) (fun _ => True) (fun _ => .agg (u32s (behindL K s bs)).toArray) (fun _ => M) := by
  have hKs := hK.says (M := M)
  have hW : behindL K s bs = addL s (runTo K (wTo bs 48) (St.of s) 64).toL := rfl
  obtain ⟨W, hWe⟩ : ∃ W, wTo bs 48 = W := ⟨_, rfl⟩
  have hwl : W.length = 64 := by rw [← hWe]; exact wTo_length bs 48
  rw [hWe] at hW
  refine Does.enter Tryd.func39 rfl Tryd.ntmps39 rfl ?_
  (repeat (first | refine CW.seq ?_ | refine QW.then_n ?_ | refine CW.block ?_ | refine CW.ret ?_ | refine CW.skip ?_ | refine CW.exit ?_ | refine QW.then_x ?_ | refine QW.then_r ?_ | refine QW.block_n ?_ | refine QW.block_xe ?_ | refine QW.block_xn rfl ?_ | refine QW.block_r ?_))
  refine CW.region ?_
  refine OW.boxA rfl rfl (fun b2 => ?_)
  refine OW.alloc (l := u32s (List.replicate 8 0#32)) rfl (by rw [← u32s_rep]; rfl) rfl (fun b4 => ?_)
  refine OW.nil ?_
  (repeat (first | refine CW.seq ?_ | refine QW.then_n ?_ | refine CW.block ?_ | refine CW.ret ?_ | refine CW.skip ?_ | refine CW.exit ?_ | refine QW.then_x ?_ | refine QW.then_r ?_ | refine QW.block_n ?_ | refine QW.block_xe ?_ | refine QW.block_xn rfl ?_ | refine QW.block_r ?_))
  (repeat (first | refine CW.seq ?_ | refine QW.then_n ?_ | refine CW.block ?_ | refine CW.ret ?_ | refine CW.skip ?_ | refine CW.exit ?_ | refine QW.then_x ?_ | refine QW.then_r ?_ | refine QW.block_n ?_ | refine QW.block_xe ?_ | refine QW.block_xn rfl ?_ | refine QW.block_r ?_))
  refine CW.region ?_
  refine OW.rv (RV.move rfl) rfl ?_
  refine OW.call Tryd.call50 rfl (words_is w0 _ A ca bs (Mem.Says.cons (Mem.Says.cons hA)) hl hca hWe) rfl (fun u hu => ?_)
  refine OW.alloc (l := u32s (List.replicate 64 0#32)) rfl (by rw [← u32s_rep]; rfl) rfl (fun b5 => ?_)
  (first | (first | refine OW.sv (SV.storeW rfl (by first | rfl | assumption) rfl (by first | exact u32s_one _ | assumption) rfl (by first | assumption | exact (u32s_length _).trans (List.length_replicate ..) | exact (u32s_length _).trans (by assumption) | rfl | (simp; done) | (simp [*]; done) | (simp [*]; rfl)) (by first | assumption | exact (u32s_length _).trans (List.length_replicate ..) | exact (u32s_length _).trans (by assumption) | rfl | (simp; done) | (simp [*]; done) | (simp [*]; rfl))) ?_ | refine OW.sv (SV.storeAs rfl (by first | rfl | assumption) rfl (by first | exact u32s_one _ | assumption) rfl (by first | assumption | exact (u32s_length _).trans (List.length_replicate ..) | exact (u32s_length _).trans (by assumption) | rfl | (simp; done) | (simp [*]; done) | (simp [*]; rfl)) (by first | assumption | (simp; done) | (simp; omega) | omega)) ?_) | (refine OW.rot1 ?_; (first | refine OW.sv (SV.storeW rfl (by first | rfl | assumption) rfl (by first | exact u32s_one _ | assumption) rfl (by first | assumption | exact (u32s_length _).trans (List.length_replicate ..) | exact (u32s_length _).trans (by assumption) | rfl | (simp; done) | (simp [*]; done) | (simp [*]; rfl)) (by first | assumption | exact (u32s_length _).trans (List.length_replicate ..) | exact (u32s_length _).trans (by assumption) | rfl | (simp; done) | (simp [*]; done) | (simp [*]; rfl))) ?_ | refine OW.sv (SV.storeAs rfl (by first | rfl | assumption) rfl (by first | exact u32s_one _ | assumption) rfl (by first | assumption | exact (u32s_length _).trans (List.length_replicate ..) | exact (u32s_length _).trans (by assumption) | rfl | (simp; done) | (simp [*]; done) | (simp [*]; rfl)) (by first | assumption | (simp; done) | (simp; omega) | omega)) ?_)) | (refine OW.rot2 ?_; (first | refine OW.sv (SV.storeW rfl (by first | rfl | assumption) rfl (by first | exact u32s_one _ | assumption) rfl (by first | assumption | exact (u32s_length _).trans (List.length_replicate ..) | exact (u32s_length _).trans (by assumption) | rfl | (simp; done) | (simp [*]; done) | (simp [*]; rfl)) (by first | assumption | exact (u32s_length _).trans (List.length_replicate ..) | exact (u32s_length _).trans (by assumption) | rfl | (simp; done) | (simp [*]; done) | (simp [*]; rfl))) ?_ | refine OW.sv (SV.storeAs rfl (by first | rfl | assumption) rfl (by first | exact u32s_one _ | assumption) rfl (by first | assumption | exact (u32s_length _).trans (List.length_replicate ..) | exact (u32s_length _).trans (by assumption) | rfl | (simp; done) | (simp [*]; done) | (simp [*]; rfl)) (by first | assumption | (simp; done) | (simp; omega) | omega)) ?_)) | (refine OW.rot3 ?_; (first | refine OW.sv (SV.storeW rfl (by first | rfl | assumption) rfl (by first | exact u32s_one _ | assumption) rfl (by first | assumption | exact (u32s_length _).trans (List.length_replicate ..) | exact (u32s_length _).trans (by assumption) | rfl | (simp; done) | (simp [*]; done) | (simp [*]; rfl)) (by first | assumption | exact (u32s_length _).trans (List.length_replicate ..) | exact (u32s_length _).trans (by assumption) | rfl | (simp; done) | (simp [*]; done) | (simp [*]; rfl))) ?_ | refine OW.sv (SV.storeAs rfl (by first | rfl | assumption) rfl (by first | exact u32s_one _ | assumption) rfl (by first | assumption | exact (u32s_length _).trans (List.length_replicate ..) | exact (u32s_length _).trans (by assumption) | rfl | (simp; done) | (simp [*]; done) | (simp [*]; rfl)) (by first | assumption | (simp; done) | (simp; omega) | omega)) ?_)) | (refine OW.rot4 ?_; (first | refine OW.sv (SV.storeW rfl (by first | rfl | assumption) rfl (by first | exact u32s_one _ | assumption) rfl (by first | assumption | exact (u32s_length _).trans (List.length_replicate ..) | exact (u32s_length _).trans (by assumption) | rfl | (simp; done) | (simp [*]; done) | (simp [*]; rfl)) (by first | assumption | exact (u32s_length _).trans (List.length_replicate ..) | exact (u32s_length _).trans (by assumption) | rfl | (simp; done) | (simp [*]; done) | (simp [*]; rfl))) ?_ | refine OW.sv (SV.storeAs rfl (by first | rfl | assumption) rfl (by first | exact u32s_one _ | assumption) rfl (by first | assumption | exact (u32s_length _).trans (List.length_replicate ..) | exact (u32s_length _).trans (by assumption) | rfl | (simp; done) | (simp [*]; done) | (simp [*]; rfl)) (by first | assumption | (simp; done) | (simp; omega) | omega)) ?_)) | (refine OW.rot5 ?_; (first | refine OW.sv (SV.storeW rfl (by first | rfl | assumption) rfl (by first | exact u32s_one _ | assumption) rfl (by first | assumption | exact (u32s_length _).trans (List.length_replicate ..) | exact (u32s_length _).trans (by assumption) | rfl | (simp; done) | (simp [*]; done) | (simp [*]; rfl)) (by first | assumption | exact (u32s_length _).trans (List.length_replicate ..) | exact (u32s_length _).trans (by assumption) | rfl | (simp; done) | (simp [*]; done) | (simp [*]; rfl))) ?_ | refine OW.sv (SV.storeAs rfl (by first | rfl | assumption) rfl (by first | exact u32s_one _ | assumption) rfl (by first | assumption | exact (u32s_length _).trans (List.length_replicate ..) | exact (u32s_length _).trans (by assumption) | rfl | (simp; done) | (simp [*]; done) | (simp [*]; rfl)) (by first | assumption | (simp; done) | (simp; omega) | omega)) ?_)) | (refine OW.rot6 ?_; (first | refine OW.sv (SV.storeW rfl (by first | rfl | assumption) rfl (by first | exact u32s_one _ | assumption) rfl (by first | assumption | exact (u32s_length _).trans (List.length_replicate ..) | exact (u32s_length _).trans (by assumption) | rfl | (simp; done) | (simp [*]; done) | (simp [*]; rfl)) (by first | assumption | exact (u32s_length _).trans (List.length_replicate ..) | exact (u32s_length _).trans (by assumption) | rfl | (simp; done) | (simp [*]; done) | (simp [*]; rfl))) ?_ | refine OW.sv (SV.storeAs rfl (by first | rfl | assumption) rfl (by first | exact u32s_one _ | assumption) rfl (by first | assumption | exact (u32s_length _).trans (List.length_replicate ..) | exact (u32s_length _).trans (by assumption) | rfl | (simp; done) | (simp [*]; done) | (simp [*]; rfl)) (by first | assumption | (simp; done) | (simp; omega) | omega)) ?_)))
  refine OW.nil ?_
  (repeat (first | refine CW.seq ?_ | refine QW.then_n ?_ | refine CW.block ?_ | refine CW.ret ?_ | refine CW.skip ?_ | refine CW.exit ?_ | refine QW.then_x ?_ | refine QW.then_r ?_ | refine QW.block_n ?_ | refine QW.block_xe ?_ | refine QW.block_xn rfl ?_ | refine QW.block_r ?_))
  have gs : ∀ p, p < 8 → (u32s s)[0 + p]? = some (U32 (s.getD p 0#32)) := fun p hp => by rw [Nat.zero_add]; exact u32s_get (by omega)
  have gs0 := gs 0 (by decide)
  have gs1 := gs 1 (by decide)
  have gs2 := gs 2 (by decide)
  have gs3 := gs 3 (by decide)
  have gs4 := gs 4 (by decide)
  have gs5 := gs 5 (by decide)
  have gs6 := gs 6 (by decide)
  have gs7 := gs 7 (by decide)
  (repeat (first | refine CW.seq ?_ | refine QW.then_n ?_ | refine CW.block ?_ | refine CW.ret ?_ | refine CW.skip ?_ | refine CW.exit ?_ | refine QW.then_x ?_ | refine QW.then_r ?_ | refine QW.block_n ?_ | refine QW.block_xe ?_ | refine QW.block_xn rfl ?_ | refine QW.block_r ?_))
  refine CW.draws mixed (by kernel_rfl) ?_
  (first | refine DW.rv (RV.idx_a _ rfl rfl rfl rfl rfl (by omega)) rfl ?_ | refine DW.rv (RV.idx_az rfl rfl (by omega) rfl rfl (by omega)) rfl ?_)
  (first | refine DW.rv (RV.load rfl (by (repeat (first | exact List.Mem.head _ | assumption | refine List.Mem.tail _ ?_)); done) (by first | rfl | assumption) rfl rfl (by first | rfl | assumption)) rfl ?_ | refine DW.rv (RV.load_at rfl rfl rfl (by (repeat (first | assumption | refine Mem.Says.cons ?_)); done)) rfl ?_)
  (first | refine DW.rv (RV.idx_a _ rfl rfl rfl rfl rfl (by omega)) rfl ?_ | refine DW.rv (RV.idx_az rfl rfl (by omega) rfl rfl (by omega)) rfl ?_)
  (first | refine DW.rv (RV.load rfl (by (repeat (first | exact List.Mem.head _ | assumption | refine List.Mem.tail _ ?_)); done) (by first | rfl | assumption) rfl rfl (by first | rfl | assumption)) rfl ?_ | refine DW.rv (RV.load_at rfl rfl rfl (by (repeat (first | assumption | refine Mem.Says.cons ?_)); done)) rfl ?_)
  (first | refine DW.rv (RV.idx_a _ rfl rfl rfl rfl rfl (by omega)) rfl ?_ | refine DW.rv (RV.idx_az rfl rfl (by omega) rfl rfl (by omega)) rfl ?_)
  (first | refine DW.rv (RV.load rfl (by (repeat (first | exact List.Mem.head _ | assumption | refine List.Mem.tail _ ?_)); done) (by first | rfl | assumption) rfl rfl (by first | rfl | assumption)) rfl ?_ | refine DW.rv (RV.load_at rfl rfl rfl (by (repeat (first | assumption | refine Mem.Says.cons ?_)); done)) rfl ?_)
  (first | refine DW.rv (RV.idx_a _ rfl rfl rfl rfl rfl (by omega)) rfl ?_ | refine DW.rv (RV.idx_az rfl rfl (by omega) rfl rfl (by omega)) rfl ?_)
  (first | refine DW.rv (RV.load rfl (by (repeat (first | exact List.Mem.head _ | assumption | refine List.Mem.tail _ ?_)); done) (by first | rfl | assumption) rfl rfl (by first | rfl | assumption)) rfl ?_ | refine DW.rv (RV.load_at rfl rfl rfl (by (repeat (first | assumption | refine Mem.Says.cons ?_)); done)) rfl ?_)
  (first | refine DW.rv (RV.idx_a _ rfl rfl rfl rfl rfl (by omega)) rfl ?_ | refine DW.rv (RV.idx_az rfl rfl (by omega) rfl rfl (by omega)) rfl ?_)
  (first | refine DW.rv (RV.load rfl (by (repeat (first | exact List.Mem.head _ | assumption | refine List.Mem.tail _ ?_)); done) (by first | rfl | assumption) rfl rfl (by first | rfl | assumption)) rfl ?_ | refine DW.rv (RV.load_at rfl rfl rfl (by (repeat (first | assumption | refine Mem.Says.cons ?_)); done)) rfl ?_)
  (first | refine DW.rv (RV.idx_a _ rfl rfl rfl rfl rfl (by omega)) rfl ?_ | refine DW.rv (RV.idx_az rfl rfl (by omega) rfl rfl (by omega)) rfl ?_)
  (first | refine DW.rv (RV.load rfl (by (repeat (first | exact List.Mem.head _ | assumption | refine List.Mem.tail _ ?_)); done) (by first | rfl | assumption) rfl rfl (by first | rfl | assumption)) rfl ?_ | refine DW.rv (RV.load_at rfl rfl rfl (by (repeat (first | assumption | refine Mem.Says.cons ?_)); done)) rfl ?_)
  (first | refine DW.rv (RV.idx_a _ rfl rfl rfl rfl rfl (by omega)) rfl ?_ | refine DW.rv (RV.idx_az rfl rfl (by omega) rfl rfl (by omega)) rfl ?_)
  (first | refine DW.rv (RV.load rfl (by (repeat (first | exact List.Mem.head _ | assumption | refine List.Mem.tail _ ?_)); done) (by first | rfl | assumption) rfl rfl (by first | rfl | assumption)) rfl ?_ | refine DW.rv (RV.load_at rfl rfl rfl (by (repeat (first | assumption | refine Mem.Says.cons ?_)); done)) rfl ?_)
  (first | refine DW.rv (RV.idx_a _ rfl rfl rfl rfl rfl (by omega)) rfl ?_ | refine DW.rv (RV.idx_az rfl rfl (by omega) rfl rfl (by omega)) rfl ?_)
  (first | refine DW.rv (RV.load rfl (by (repeat (first | exact List.Mem.head _ | assumption | refine List.Mem.tail _ ?_)); done) (by first | rfl | assumption) rfl rfl (by first | rfl | assumption)) rfl ?_ | refine DW.rv (RV.load_at rfl rfl rfl (by (repeat (first | assumption | refine Mem.Says.cons ?_)); done)) rfl ?_)
  refine DW.rv (RV.assign rfl) rfl ?_
  refine DW.rv (RV.assign rfl) rfl ?_
  refine DW.rv (RV.assign rfl) rfl ?_
  refine DW.rv (RV.assign rfl) rfl ?_
  refine DW.rv (RV.assign rfl) rfl ?_
  refine DW.rv (RV.assign rfl) rfl ?_
  refine DW.rv (RV.assign rfl) rfl ?_
  refine DW.rv (RV.assign rfl) rfl ?_
  refine DW.nil ?_
  (repeat (first | refine CW.seq ?_ | refine QW.then_n ?_ | refine CW.block ?_ | refine CW.ret ?_ | refine CW.skip ?_ | refine CW.exit ?_ | refine QW.then_x ?_ | refine QW.then_r ?_ | refine QW.block_n ?_ | refine QW.block_xe ?_ | refine QW.block_xn rfl ?_ | refine QW.block_r ?_))
  (repeat (first | refine CW.seq ?_ | refine QW.then_n ?_ | refine CW.block ?_ | refine CW.ret ?_ | refine CW.skip ?_ | refine CW.exit ?_ | refine QW.then_x ?_ | refine QW.then_r ?_ | refine QW.block_n ?_ | refine QW.block_xe ?_ | refine QW.block_xn rfl ?_ | refine QW.block_r ?_))
  refine CW.region ?_
  (first | refine OW.rv (RV.loadW rfl (by (repeat (first | exact List.Mem.head _ | assumption | refine List.Mem.tail _ ?_)); done) (by first | rfl | assumption) rfl rfl rfl (by first | assumption | exact (u32s_length _).trans (List.length_replicate ..) | exact (u32s_length _).trans (by assumption) | rfl | (simp; done) | (simp [*]; done) | (simp [*]; rfl))) rfl ?_ | refine OW.rv (RV.loadAo rfl (by (repeat (first | exact List.Mem.head _ | assumption | refine List.Mem.tail _ ?_)); done) (by first | rfl | assumption) rfl rfl rfl (by assumption) (by first | assumption | exact (u32s_length _).trans (List.length_replicate ..) | exact (u32s_length _).trans (by assumption) | rfl | (simp; done) | (simp [*]; done) | (simp [*]; rfl))) rfl ?_ | refine OW.rv (RV.loadAs rfl rfl rfl rfl (by (repeat (first | assumption | refine Mem.Says.cons ?_)); done) (by first | assumption | exact (u32s_length _).trans (List.length_replicate ..) | exact (u32s_length _).trans (by assumption) | rfl | (simp; done) | (simp [*]; done) | (simp [*]; rfl))) rfl ?_)
  refine OW.rv (RV.move rfl) rfl ?_
  refine OW.nil ?_
  (repeat (first | refine CW.seq ?_ | refine QW.then_n ?_ | refine CW.block ?_ | refine CW.ret ?_ | refine CW.skip ?_ | refine CW.exit ?_ | refine QW.then_x ?_ | refine QW.then_r ?_ | refine QW.block_n ?_ | refine QW.block_xe ?_ | refine QW.block_xn rfl ?_ | refine QW.block_r ?_))
  refine CW.loop (σ := Nat) (fun t => t ≤ 64) (fun t => [(2, ptr (some b2) 0), (4, ptr (some b4) 0), (5, ptr (some b5) 0), (6, U32 (runTo K W (St.of s) t).a), (7, U32 (runTo K W (St.of s) t).b), (8, U32 (runTo K W (St.of s) t).c), (9, U32 (runTo K W (St.of s) t).d), (10, U32 (runTo K W (St.of s) t).e), (11, U32 (runTo K W (St.of s) t).f), (12, U32 (runTo K W (St.of s) t).g), (13, U32 (runTo K W (St.of s) t).h), (38, .agg (u32s K).toArray), (39, .int .i64 (t : Int))])
    (fun t => (some b5, blk (u32s W) 80) :: (some b4, blk (u32s z8) 23) :: (some b2, blk (u32s s) 23) :: M) (fun t => 64 - t) 0 (by omega) ⟨rfl, rfl, rfl, rfl, rfl, rfl, rfl, rfl, rfl, rfl, rfl, rfl, rfl, trivial⟩ (fun _ m => m) ?_
  · intro t ht
    (repeat (first | refine CW.seq ?_ | refine QW.then_n ?_ | refine CW.block ?_ | refine CW.ret ?_ | refine CW.skip ?_ | refine CW.exit ?_ | refine QW.then_x ?_ | refine QW.then_r ?_ | refine QW.block_n ?_ | refine QW.block_xe ?_ | refine QW.block_xn rfl ?_ | refine QW.block_r ?_))
    refine CW.region ?_
    refine OW.rv (RV.lss rfl rfl) rfl ?_
    refine OW.nil ?_
    (repeat (first | refine CW.seq ?_ | refine QW.then_n ?_ | refine CW.block ?_ | refine CW.ret ?_ | refine CW.skip ?_ | refine CW.exit ?_ | refine QW.then_x ?_ | refine QW.then_r ?_ | refine QW.block_n ?_ | refine QW.block_xe ?_ | refine QW.block_xn rfl ?_ | refine QW.block_r ?_))
    (first | refine CW.cond_t rfl ?_ | refine CW.cond_f rfl ?_ | refine CW.cond_p rfl (fun hlt => ?_) (fun hlt => ?_) | refine CW.cond_np rfl (fun hlt => ?_) (fun hlt => ?_) | refine CW.cond rfl (fun hlt => ?_) (fun hlt => ?_))
    · have ht2 : t < 64 := by omega
      have gk : (u32s K)[t]? = some (U32 (K.getD t 0#32)) := u32s_get (by omega)
      have gw : (u32s W)[0 + t]? = some (U32 (W.getD t 0#32)) := by rw [Nat.zero_add]; exact u32s_get (by omega)
      (repeat (first | refine CW.seq ?_ | refine QW.then_n ?_ | refine CW.block ?_ | refine CW.ret ?_ | refine CW.skip ?_ | refine CW.exit ?_ | refine QW.then_x ?_ | refine QW.then_r ?_ | refine QW.block_n ?_ | refine QW.block_xe ?_ | refine QW.block_xn rfl ?_ | refine QW.block_r ?_))
      refine CW.region ?_
      refine OW.rv (RV.move rfl) rfl ?_
      refine OW.rv (RV.indexV _ rfl rfl rfl rfl rfl rfl rfl (by omega) (by first | rfl | assumption)) rfl ?_
      refine OW.rv (RV.assign rfl) rfl ?_
      refine OW.rv (RV.assign rfl) rfl ?_
      refine OW.nil ?_
      (repeat (first | refine CW.seq ?_ | refine QW.then_n ?_ | refine CW.block ?_ | refine CW.ret ?_ | refine CW.skip ?_ | refine CW.exit ?_ | refine QW.then_x ?_ | refine QW.then_r ?_ | refine QW.block_n ?_ | refine QW.block_xe ?_ | refine QW.block_xn rfl ?_ | refine QW.block_r ?_))
      (repeat (first | refine CW.seq ?_ | refine QW.then_n ?_ | refine CW.block ?_ | refine CW.ret ?_ | refine CW.skip ?_ | refine CW.exit ?_ | refine QW.then_x ?_ | refine QW.then_r ?_ | refine QW.block_n ?_ | refine QW.block_xe ?_ | refine QW.block_xn rfl ?_ | refine QW.block_r ?_))
      refine CW.draws mixed (by kernel_rfl) ?_
      refine DW.rv (RV.move rfl) rfl ?_
      refine DW.rv (RV.move rfl) rfl ?_
      refine DW.call _ Tryd.call51 rfl (rotl_does w0 _ _ (-6) 6 (by decide) (by decide)) (fun _ _ => rfl) (fun _ _ _ m => m) rfl ?_
      refine DW.rv (RV.move rfl) rfl ?_
      refine DW.call _ Tryd.call51 rfl (rotl_does w0 _ _ (-11) 11 (by decide) (by decide)) (fun _ _ => rfl) (fun _ _ _ m => m) rfl ?_
      refine DW.rv (RV.xor32 rfl (by first | rfl | exact lit32 _ rfl) rfl (by first | rfl | exact lit32 _ rfl)) rfl ?_
      refine DW.rv (RV.move rfl) rfl ?_
      refine DW.call _ Tryd.call51 rfl (rotl_does w0 _ _ (-25) 25 (by decide) (by decide)) (fun _ _ => rfl) (fun _ _ _ m => m) rfl ?_
      refine DW.rv (RV.xor32 rfl (by first | rfl | exact lit32 _ rfl) rfl (by first | rfl | exact lit32 _ rfl)) rfl ?_
      refine DW.rv (RV.add32 rfl (by first | rfl | exact lit32 _ rfl) rfl (by first | rfl | exact lit32 _ rfl)) rfl ?_
      refine DW.rv (RV.move rfl) rfl ?_
      refine DW.rv (RV.move rfl) rfl ?_
      refine DW.rv (RV.and32 rfl (by first | rfl | exact lit32 _ rfl) rfl (by first | rfl | exact lit32 _ rfl)) rfl ?_
      refine DW.rv (RV.move rfl) rfl ?_
      refine DW.rv (RV.compl32 rfl (by first | rfl | exact lit32 _ rfl)) rfl ?_
      refine DW.rv (RV.move rfl) rfl ?_
      refine DW.rv (RV.and32 rfl (by first | rfl | exact lit32 _ rfl) rfl (by first | rfl | exact lit32 _ rfl)) rfl ?_
      refine DW.rv (RV.xor32 rfl (by first | rfl | exact lit32 _ rfl) rfl (by first | rfl | exact lit32 _ rfl)) rfl ?_
      refine DW.rv (RV.add32 rfl (by first | rfl | exact lit32 _ rfl) rfl (by first | rfl | exact lit32 _ rfl)) rfl ?_
      refine DW.rv (RV.move rfl) rfl ?_
      refine DW.rv (RV.add32 rfl (by first | rfl | exact lit32 _ rfl) rfl (by first | rfl | exact lit32 _ rfl)) rfl ?_
      refine DW.rv (RV.move rfl) rfl ?_
      (first | refine DW.rv (RV.idx_a _ rfl rfl rfl rfl rfl (by omega)) rfl ?_ | refine DW.rv (RV.idx_az rfl rfl (by omega) rfl rfl (by omega)) rfl ?_)
      (first | refine DW.rv (RV.load rfl (by (repeat (first | exact List.Mem.head _ | assumption | refine List.Mem.tail _ ?_)); done) (by first | rfl | assumption) rfl rfl (by first | rfl | assumption)) rfl ?_ | refine DW.rv (RV.load_at rfl rfl rfl (by (repeat (first | assumption | refine Mem.Says.cons ?_)); done)) rfl ?_)
      refine DW.rv (RV.add32 rfl (by first | rfl | exact lit32 _ rfl) rfl (by first | rfl | exact lit32 _ rfl)) rfl ?_
      refine DW.rv (RV.assign rfl) rfl ?_
      refine DW.nil ?_
      (repeat (first | refine CW.seq ?_ | refine QW.then_n ?_ | refine CW.block ?_ | refine CW.ret ?_ | refine CW.skip ?_ | refine CW.exit ?_ | refine QW.then_x ?_ | refine QW.then_r ?_ | refine QW.block_n ?_ | refine QW.block_xe ?_ | refine QW.block_xn rfl ?_ | refine QW.block_r ?_))
      (repeat (first | refine CW.seq ?_ | refine QW.then_n ?_ | refine CW.block ?_ | refine CW.ret ?_ | refine CW.skip ?_ | refine CW.exit ?_ | refine QW.then_x ?_ | refine QW.then_r ?_ | refine QW.block_n ?_ | refine QW.block_xe ?_ | refine QW.block_xn rfl ?_ | refine QW.block_r ?_))
      refine CW.region ?_
      refine OW.rv (RV.move rfl) rfl ?_
      refine OW.call Tryd.call51 rfl (rotl_does w0 _ _ (-2) 2 (by decide) (by decide)) rfl (fun u hu => ?_)
      refine OW.rv (RV.move rfl) rfl ?_
      refine OW.call Tryd.call51 rfl (rotl_does w0 _ _ (-13) 13 (by decide) (by decide)) rfl (fun u hu => ?_)
      refine OW.rv (RV.xor32 rfl (by first | rfl | exact lit32 _ rfl) rfl (by first | rfl | exact lit32 _ rfl)) rfl ?_
      refine OW.rv (RV.move rfl) rfl ?_
      refine OW.call Tryd.call51 rfl (rotl_does w0 _ _ (-22) 22 (by decide) (by decide)) rfl (fun u hu => ?_)
      refine OW.rv (RV.xor32 rfl (by first | rfl | exact lit32 _ rfl) rfl (by first | rfl | exact lit32 _ rfl)) rfl ?_
      refine OW.rv (RV.move rfl) rfl ?_
      refine OW.rv (RV.move rfl) rfl ?_
      refine OW.rv (RV.and32 rfl (by first | rfl | exact lit32 _ rfl) rfl (by first | rfl | exact lit32 _ rfl)) rfl ?_
      refine OW.rv (RV.move rfl) rfl ?_
      refine OW.rv (RV.move rfl) rfl ?_
      refine OW.rv (RV.and32 rfl (by first | rfl | exact lit32 _ rfl) rfl (by first | rfl | exact lit32 _ rfl)) rfl ?_
      refine OW.rv (RV.xor32 rfl (by first | rfl | exact lit32 _ rfl) rfl (by first | rfl | exact lit32 _ rfl)) rfl ?_
      refine OW.rv (RV.move rfl) rfl ?_
      refine OW.rv (RV.move rfl) rfl ?_
      refine OW.rv (RV.and32 rfl (by first | rfl | exact lit32 _ rfl) rfl (by first | rfl | exact lit32 _ rfl)) rfl ?_
      refine OW.rv (RV.xor32 rfl (by first | rfl | exact lit32 _ rfl) rfl (by first | rfl | exact lit32 _ rfl)) rfl ?_
      refine OW.rv (RV.add32 rfl (by first | rfl | exact lit32 _ rfl) rfl (by first | rfl | exact lit32 _ rfl)) rfl ?_
      refine OW.rv (RV.assign rfl) rfl ?_
      refine OW.nil ?_
      (repeat (first | refine CW.seq ?_ | refine QW.then_n ?_ | refine CW.block ?_ | refine CW.ret ?_ | refine CW.skip ?_ | refine CW.exit ?_ | refine QW.then_x ?_ | refine QW.then_r ?_ | refine QW.block_n ?_ | refine QW.block_xe ?_ | refine QW.block_xn rfl ?_ | refine QW.block_r ?_))
      (repeat (first | refine CW.seq ?_ | refine QW.then_n ?_ | refine CW.block ?_ | refine CW.ret ?_ | refine CW.skip ?_ | refine CW.exit ?_ | refine QW.then_x ?_ | refine QW.then_r ?_ | refine QW.block_n ?_ | refine QW.block_xe ?_ | refine QW.block_xn rfl ?_ | refine QW.block_r ?_))
      refine CW.region ?_
      refine OW.rv (RV.move rfl) rfl ?_
      refine OW.rv (RV.move rfl) rfl ?_
      refine OW.rv (RV.move rfl) rfl ?_
      refine OW.rv (RV.move rfl) rfl ?_
      refine OW.rv (RV.move rfl) rfl ?_
      refine OW.rv (RV.add32 rfl (by first | rfl | exact lit32 _ rfl) rfl (by first | rfl | exact lit32 _ rfl)) rfl ?_
      refine OW.rv (RV.move rfl) rfl ?_
      refine OW.rv (RV.move rfl) rfl ?_
      refine OW.rv (RV.move rfl) rfl ?_
      refine OW.rv (RV.move rfl) rfl ?_
      refine OW.rv (RV.move rfl) rfl ?_
      refine OW.rv (RV.add32 rfl (by first | rfl | exact lit32 _ rfl) rfl (by first | rfl | exact lit32 _ rfl)) rfl ?_
      refine OW.rv (RV.assign rfl) rfl ?_
      refine OW.rv (RV.assign rfl) rfl ?_
      refine OW.rv (RV.assign rfl) rfl ?_
      refine OW.rv (RV.assign rfl) rfl ?_
      refine OW.rv (RV.assign rfl) rfl ?_
      refine OW.rv (RV.assign rfl) rfl ?_
      refine OW.rv (RV.assign rfl) rfl ?_
      refine OW.rv (RV.assign rfl) rfl ?_
      refine OW.nil ?_
      (repeat (first | refine CW.seq ?_ | refine QW.then_n ?_ | refine CW.block ?_ | refine CW.ret ?_ | refine CW.skip ?_ | refine CW.exit ?_ | refine QW.then_x ?_ | refine QW.then_r ?_ | refine QW.block_n ?_ | refine QW.block_xe ?_ | refine QW.block_xn rfl ?_ | refine QW.block_r ?_))
      (repeat (first | refine CW.seq ?_ | refine QW.then_n ?_ | refine CW.block ?_ | refine CW.ret ?_ | refine CW.skip ?_ | refine CW.exit ?_ | refine QW.then_x ?_ | refine QW.then_r ?_ | refine QW.block_n ?_ | refine QW.block_xe ?_ | refine QW.block_xn rfl ?_ | refine QW.block_r ?_))
      refine CW.region ?_
      refine OW.rv (RV.add rfl rfl (by omega)) rfl ?_
      refine OW.rv (RV.move rfl) rfl ?_
      refine OW.nil ?_
      (repeat (first | refine CW.seq ?_ | refine QW.then_n ?_ | refine CW.block ?_ | refine CW.ret ?_ | refine CW.skip ?_ | refine CW.exit ?_ | refine QW.then_x ?_ | refine QW.then_r ?_ | refine QW.block_n ?_ | refine QW.block_xe ?_ | refine QW.block_xn rfl ?_ | refine QW.block_r ?_))
      have hstep : runTo K W (St.of s) (t + 1) = (runTo K W (St.of s) t).step (K.getD t 0#32) (W.getD t 0#32) := rfl
      generalize runTo K W (St.of s) t = S at hstep ⊢
      refine QW.again (t + 1) (by omega) (by omega) ?_ (fun _ m => m)
      rw [hstep]
      exact ⟨rfl, rfl, rfl, rfl, rfl, rfl, rfl, rfl, rfl, rfl, rfl, rfl, rfl, trivial⟩
    · have ht2 : t = 64 := by omega
      subst ht2
      generalize runTo K W (St.of s) 64 = S at hW ⊢
      (repeat (first | refine CW.seq ?_ | refine QW.then_n ?_ | refine CW.block ?_ | refine CW.ret ?_ | refine CW.skip ?_ | refine CW.exit ?_ | refine QW.then_x ?_ | refine QW.then_r ?_ | refine QW.block_n ?_ | refine QW.block_xe ?_ | refine QW.block_xn rfl ?_ | refine QW.block_r ?_))
      refine CW.region ?_
      refine OW.rv (RV.move rfl) rfl ?_
      refine OW.rv (RV.move rfl) rfl ?_
      refine OW.rv (RV.move rfl) rfl ?_
      refine OW.rv (RV.move rfl) rfl ?_
      refine OW.rv (RV.move rfl) rfl ?_
      refine OW.rv (RV.move rfl) rfl ?_
      refine OW.rv (RV.move rfl) rfl ?_
      refine OW.rv (RV.move rfl) rfl ?_
      refine OW.rv (RV.buildA (l := u32s (List.replicate 8 0#32)) (cs := u32s S.toL) rfl rfl rfl (by rw [← u32s_rep]; rfl) rfl rfl (by first | assumption | rfl)) rfl ?_
      refine OW.rv (RV.move rfl) rfl ?_
      refine OW.nil ?_
      (repeat (first | refine CW.seq ?_ | refine QW.then_n ?_ | refine CW.block ?_ | refine CW.ret ?_ | refine CW.skip ?_ | refine CW.exit ?_ | refine QW.then_x ?_ | refine QW.then_r ?_ | refine QW.block_n ?_ | refine QW.block_xe ?_ | refine QW.block_xn rfl ?_ | refine QW.block_r ?_))
      have hv : S.toL.length = 8 := rfl
      rw [hW]
      generalize S.toL = V at hv ⊢
      refine CW.loop (σ := Nat) (fun i => i ≤ 8) (fun i => [(2, ptr (some b2) 0), (4, ptr (some b4) 0), (109, .agg (u32s V).toArray), (110, .int .i64 (i : Int))])
        (fun i => (some b2, blk (u32s (addTo s V i)) 23) :: (some b4, blk (u32s z8) 23) :: M) (fun i => 8 - i) 0 (by omega) ⟨rfl, rfl, rfl, rfl, trivial⟩ (fun _ m => by rw [addTo_zero]; exact m.tail.rot1) ?_
      intro i hi
      have hal := addTo_length hs hv i
      (repeat (first | refine CW.seq ?_ | refine QW.then_n ?_ | refine CW.block ?_ | refine CW.ret ?_ | refine CW.skip ?_ | refine CW.exit ?_ | refine QW.then_x ?_ | refine QW.then_r ?_ | refine QW.block_n ?_ | refine QW.block_xe ?_ | refine QW.block_xn rfl ?_ | refine QW.block_r ?_))
      refine CW.region ?_
      refine OW.rv (RV.lss rfl rfl) rfl ?_
      refine OW.nil ?_
      (repeat (first | refine CW.seq ?_ | refine QW.then_n ?_ | refine CW.block ?_ | refine CW.ret ?_ | refine CW.skip ?_ | refine CW.exit ?_ | refine QW.then_x ?_ | refine QW.then_r ?_ | refine QW.block_n ?_ | refine QW.block_xe ?_ | refine QW.block_xn rfl ?_ | refine QW.block_r ?_))
      (first | refine CW.cond_t rfl ?_ | refine CW.cond_f rfl ?_ | refine CW.cond_p rfl (fun hilt => ?_) (fun hilt => ?_) | refine CW.cond_np rfl (fun hilt => ?_) (fun hilt => ?_) | refine CW.cond rfl (fun hilt => ?_) (fun hilt => ?_))
      · have hi2 : i < 8 := by omega
        have gv : (u32s V)[i]? = some (U32 (V.getD i 0#32)) := u32s_get (by omega)
        have ga : (u32s (addTo s V i))[0 + i]? = some (U32 (s.getD i 0#32)) := by rw [Nat.zero_add, u32s_get (by omega), addTo_get hs hv hi2]
        have hl2 : 0 + i < (u32s (addTo s V i)).length := by rw [u32s_length]; omega
        (repeat (first | refine CW.seq ?_ | refine QW.then_n ?_ | refine CW.block ?_ | refine CW.ret ?_ | refine CW.skip ?_ | refine CW.exit ?_ | refine QW.then_x ?_ | refine QW.then_r ?_ | refine QW.block_n ?_ | refine QW.block_xe ?_ | refine QW.block_xn rfl ?_ | refine QW.block_r ?_))
        refine CW.region ?_
        refine OW.rv (RV.move rfl) rfl ?_
        refine OW.rv (RV.indexV _ rfl rfl rfl rfl rfl rfl rfl (by omega) (by first | rfl | assumption)) rfl ?_
        refine OW.rv (RV.assign rfl) rfl ?_
        refine OW.rv (RV.assign rfl) rfl ?_
        refine OW.nil ?_
        (repeat (first | refine CW.seq ?_ | refine QW.then_n ?_ | refine CW.block ?_ | refine CW.ret ?_ | refine CW.skip ?_ | refine CW.exit ?_ | refine QW.then_x ?_ | refine QW.then_r ?_ | refine QW.block_n ?_ | refine QW.block_xe ?_ | refine QW.block_xn rfl ?_ | refine QW.block_r ?_))
        (repeat (first | refine CW.seq ?_ | refine QW.then_n ?_ | refine CW.block ?_ | refine CW.ret ?_ | refine CW.skip ?_ | refine CW.exit ?_ | refine QW.then_x ?_ | refine QW.then_r ?_ | refine QW.block_n ?_ | refine QW.block_xe ?_ | refine QW.block_xn rfl ?_ | refine QW.block_r ?_))
        refine CW.region ?_
        refine OW.rv (RV.move rfl) rfl ?_
        (first | refine OW.rv (RV.idx_a _ rfl rfl rfl rfl rfl (by omega)) rfl ?_ | refine OW.rv (RV.idx_az rfl rfl (by omega) rfl rfl (by omega)) rfl ?_)
        (first | refine OW.rv (RV.load rfl (by (repeat (first | exact List.Mem.head _ | assumption | refine List.Mem.tail _ ?_)); done) (by first | rfl | assumption) rfl rfl (by first | rfl | assumption)) rfl ?_ | refine OW.rv (RV.load_at rfl rfl rfl (by (repeat (first | assumption | refine Mem.Says.cons ?_)); done)) rfl ?_)
        refine OW.rv (RV.move rfl) rfl ?_
        refine OW.rv (RV.add32 rfl (by first | rfl | exact lit32 _ rfl) rfl (by first | rfl | exact lit32 _ rfl)) rfl ?_
        (first | refine OW.rv (RV.idx_a _ rfl rfl rfl rfl rfl (by omega)) rfl ?_ | refine OW.rv (RV.idx_az rfl rfl (by omega) rfl rfl (by omega)) rfl ?_)
        (first | refine OW.sv (SV.store rfl (by first | rfl | assumption) rfl rfl rfl (by first | assumption | (simp; done) | (simp; omega) | omega)) ?_ | (refine OW.rot1 ?_; refine OW.sv (SV.store rfl (by first | rfl | assumption) rfl rfl rfl (by first | assumption | (simp; done) | (simp; omega) | omega)) ?_) | (refine OW.rot2 ?_; refine OW.sv (SV.store rfl (by first | rfl | assumption) rfl rfl rfl (by first | assumption | (simp; done) | (simp; omega) | omega)) ?_) | (refine OW.rot3 ?_; refine OW.sv (SV.store rfl (by first | rfl | assumption) rfl rfl rfl (by first | assumption | (simp; done) | (simp; omega) | omega)) ?_) | (refine OW.rot4 ?_; refine OW.sv (SV.store rfl (by first | rfl | assumption) rfl rfl rfl (by first | assumption | (simp; done) | (simp; omega) | omega)) ?_))
        refine OW.nil ?_
        (repeat (first | refine CW.seq ?_ | refine QW.then_n ?_ | refine CW.block ?_ | refine CW.ret ?_ | refine CW.skip ?_ | refine CW.exit ?_ | refine QW.then_x ?_ | refine QW.then_r ?_ | refine QW.block_n ?_ | refine QW.block_xe ?_ | refine QW.block_xn rfl ?_ | refine QW.block_r ?_))
        (repeat (first | refine CW.seq ?_ | refine QW.then_n ?_ | refine CW.block ?_ | refine CW.ret ?_ | refine CW.skip ?_ | refine CW.exit ?_ | refine QW.then_x ?_ | refine QW.then_r ?_ | refine QW.block_n ?_ | refine QW.block_xe ?_ | refine QW.block_xn rfl ?_ | refine QW.block_r ?_))
        refine CW.region ?_
        refine OW.rv (RV.add rfl rfl (by omega)) rfl ?_
        refine OW.rv (RV.move rfl) rfl ?_
        refine OW.nil ?_
        (repeat (first | refine CW.seq ?_ | refine QW.then_n ?_ | refine CW.block ?_ | refine CW.ret ?_ | refine CW.skip ?_ | refine CW.exit ?_ | refine QW.then_x ?_ | refine QW.then_r ?_ | refine QW.block_n ?_ | refine QW.block_xe ?_ | refine QW.block_xn rfl ?_ | refine QW.block_r ?_))
        refine QW.again (i + 1) (by omega) (by omega) ⟨rfl, rfl, rfl, rfl, trivial⟩ (fun _ m => ?_)
        rw [Nat.zero_add, u32s_set', addTo_set hs hv hi2] at m
        exact m
      · have hi2 : i = 8 := by omega
        subst hi2
        rw [addTo_all hs hv] at hal ⊢
        (repeat (first | refine CW.seq ?_ | refine QW.then_n ?_ | refine CW.block ?_ | refine CW.ret ?_ | refine CW.skip ?_ | refine CW.exit ?_ | refine QW.then_x ?_ | refine QW.then_r ?_ | refine QW.block_n ?_ | refine QW.block_xe ?_ | refine QW.block_xn rfl ?_ | refine QW.block_r ?_))
        refine CW.region ?_
        (first | refine OW.rv (RV.loadW rfl (by (repeat (first | exact List.Mem.head _ | assumption | refine List.Mem.tail _ ?_)); done) (by first | rfl | assumption) rfl rfl rfl (by first | assumption | exact (u32s_length _).trans (List.length_replicate ..) | exact (u32s_length _).trans (by assumption) | rfl | (simp; done) | (simp [*]; done) | (simp [*]; rfl))) rfl ?_ | refine OW.rv (RV.loadAo rfl (by (repeat (first | exact List.Mem.head _ | assumption | refine List.Mem.tail _ ?_)); done) (by first | rfl | assumption) rfl rfl rfl (by assumption) (by first | assumption | exact (u32s_length _).trans (List.length_replicate ..) | exact (u32s_length _).trans (by assumption) | rfl | (simp; done) | (simp [*]; done) | (simp [*]; rfl))) rfl ?_ | refine OW.rv (RV.loadAs rfl rfl rfl rfl (by (repeat (first | assumption | refine Mem.Says.cons ?_)); done) (by first | assumption | exact (u32s_length _).trans (List.length_replicate ..) | exact (u32s_length _).trans (by assumption) | rfl | (simp; done) | (simp [*]; done) | (simp [*]; rfl))) rfl ?_)
        (first | (first | refine OW.sv (SV.storeW rfl (by first | rfl | assumption) rfl (by first | exact u32s_one _ | assumption) rfl (by first | assumption | exact (u32s_length _).trans (List.length_replicate ..) | exact (u32s_length _).trans (by assumption) | rfl | (simp; done) | (simp [*]; done) | (simp [*]; rfl)) (by first | assumption | exact (u32s_length _).trans (List.length_replicate ..) | exact (u32s_length _).trans (by assumption) | rfl | (simp; done) | (simp [*]; done) | (simp [*]; rfl))) ?_ | refine OW.sv (SV.storeAs rfl (by first | rfl | assumption) rfl (by first | exact u32s_one _ | assumption) rfl (by first | assumption | exact (u32s_length _).trans (List.length_replicate ..) | exact (u32s_length _).trans (by assumption) | rfl | (simp; done) | (simp [*]; done) | (simp [*]; rfl)) (by first | assumption | (simp; done) | (simp; omega) | omega)) ?_) | (refine OW.rot1 ?_; (first | refine OW.sv (SV.storeW rfl (by first | rfl | assumption) rfl (by first | exact u32s_one _ | assumption) rfl (by first | assumption | exact (u32s_length _).trans (List.length_replicate ..) | exact (u32s_length _).trans (by assumption) | rfl | (simp; done) | (simp [*]; done) | (simp [*]; rfl)) (by first | assumption | exact (u32s_length _).trans (List.length_replicate ..) | exact (u32s_length _).trans (by assumption) | rfl | (simp; done) | (simp [*]; done) | (simp [*]; rfl))) ?_ | refine OW.sv (SV.storeAs rfl (by first | rfl | assumption) rfl (by first | exact u32s_one _ | assumption) rfl (by first | assumption | exact (u32s_length _).trans (List.length_replicate ..) | exact (u32s_length _).trans (by assumption) | rfl | (simp; done) | (simp [*]; done) | (simp [*]; rfl)) (by first | assumption | (simp; done) | (simp; omega) | omega)) ?_)) | (refine OW.rot2 ?_; (first | refine OW.sv (SV.storeW rfl (by first | rfl | assumption) rfl (by first | exact u32s_one _ | assumption) rfl (by first | assumption | exact (u32s_length _).trans (List.length_replicate ..) | exact (u32s_length _).trans (by assumption) | rfl | (simp; done) | (simp [*]; done) | (simp [*]; rfl)) (by first | assumption | exact (u32s_length _).trans (List.length_replicate ..) | exact (u32s_length _).trans (by assumption) | rfl | (simp; done) | (simp [*]; done) | (simp [*]; rfl))) ?_ | refine OW.sv (SV.storeAs rfl (by first | rfl | assumption) rfl (by first | exact u32s_one _ | assumption) rfl (by first | assumption | exact (u32s_length _).trans (List.length_replicate ..) | exact (u32s_length _).trans (by assumption) | rfl | (simp; done) | (simp [*]; done) | (simp [*]; rfl)) (by first | assumption | (simp; done) | (simp; omega) | omega)) ?_)) | (refine OW.rot3 ?_; (first | refine OW.sv (SV.storeW rfl (by first | rfl | assumption) rfl (by first | exact u32s_one _ | assumption) rfl (by first | assumption | exact (u32s_length _).trans (List.length_replicate ..) | exact (u32s_length _).trans (by assumption) | rfl | (simp; done) | (simp [*]; done) | (simp [*]; rfl)) (by first | assumption | exact (u32s_length _).trans (List.length_replicate ..) | exact (u32s_length _).trans (by assumption) | rfl | (simp; done) | (simp [*]; done) | (simp [*]; rfl))) ?_ | refine OW.sv (SV.storeAs rfl (by first | rfl | assumption) rfl (by first | exact u32s_one _ | assumption) rfl (by first | assumption | exact (u32s_length _).trans (List.length_replicate ..) | exact (u32s_length _).trans (by assumption) | rfl | (simp; done) | (simp [*]; done) | (simp [*]; rfl)) (by first | assumption | (simp; done) | (simp; omega) | omega)) ?_)) | (refine OW.rot4 ?_; (first | refine OW.sv (SV.storeW rfl (by first | rfl | assumption) rfl (by first | exact u32s_one _ | assumption) rfl (by first | assumption | exact (u32s_length _).trans (List.length_replicate ..) | exact (u32s_length _).trans (by assumption) | rfl | (simp; done) | (simp [*]; done) | (simp [*]; rfl)) (by first | assumption | exact (u32s_length _).trans (List.length_replicate ..) | exact (u32s_length _).trans (by assumption) | rfl | (simp; done) | (simp [*]; done) | (simp [*]; rfl))) ?_ | refine OW.sv (SV.storeAs rfl (by first | rfl | assumption) rfl (by first | exact u32s_one _ | assumption) rfl (by first | assumption | exact (u32s_length _).trans (List.length_replicate ..) | exact (u32s_length _).trans (by assumption) | rfl | (simp; done) | (simp [*]; done) | (simp [*]; rfl)) (by first | assumption | (simp; done) | (simp; omega) | omega)) ?_)) | (refine OW.rot5 ?_; (first | refine OW.sv (SV.storeW rfl (by first | rfl | assumption) rfl (by first | exact u32s_one _ | assumption) rfl (by first | assumption | exact (u32s_length _).trans (List.length_replicate ..) | exact (u32s_length _).trans (by assumption) | rfl | (simp; done) | (simp [*]; done) | (simp [*]; rfl)) (by first | assumption | exact (u32s_length _).trans (List.length_replicate ..) | exact (u32s_length _).trans (by assumption) | rfl | (simp; done) | (simp [*]; done) | (simp [*]; rfl))) ?_ | refine OW.sv (SV.storeAs rfl (by first | rfl | assumption) rfl (by first | exact u32s_one _ | assumption) rfl (by first | assumption | exact (u32s_length _).trans (List.length_replicate ..) | exact (u32s_length _).trans (by assumption) | rfl | (simp; done) | (simp [*]; done) | (simp [*]; rfl)) (by first | assumption | (simp; done) | (simp; omega) | omega)) ?_)) | (refine OW.rot6 ?_; (first | refine OW.sv (SV.storeW rfl (by first | rfl | assumption) rfl (by first | exact u32s_one _ | assumption) rfl (by first | assumption | exact (u32s_length _).trans (List.length_replicate ..) | exact (u32s_length _).trans (by assumption) | rfl | (simp; done) | (simp [*]; done) | (simp [*]; rfl)) (by first | assumption | exact (u32s_length _).trans (List.length_replicate ..) | exact (u32s_length _).trans (by assumption) | rfl | (simp; done) | (simp [*]; done) | (simp [*]; rfl))) ?_ | refine OW.sv (SV.storeAs rfl (by first | rfl | assumption) rfl (by first | exact u32s_one _ | assumption) rfl (by first | assumption | exact (u32s_length _).trans (List.length_replicate ..) | exact (u32s_length _).trans (by assumption) | rfl | (simp; done) | (simp [*]; done) | (simp [*]; rfl)) (by first | assumption | (simp; done) | (simp; omega) | omega)) ?_)))
        refine OW.nil ?_
        (repeat (first | refine CW.seq ?_ | refine QW.then_n ?_ | refine CW.block ?_ | refine CW.ret ?_ | refine CW.skip ?_ | refine CW.exit ?_ | refine QW.then_x ?_ | refine QW.then_r ?_ | refine QW.block_n ?_ | refine QW.block_xe ?_ | refine QW.block_xn rfl ?_ | refine QW.block_r ?_))
        exact QW.retC1 rfl () trivial rfl (List.Mem.head _) rfl rfl rfl rfl ((u32s_length _).trans hal) rfl (fun _ m => m.tail.tail)
theorem compress_does (w0 : World) (M : List Ent) (K : List (BitVec 32)) (hK : TabAt w0 1 K) (hKl : K.length = 64) (s : List (BitVec 32)) (hs : s.length = 8) (A : Option Addr) (ca : Nat) (bs : List (BitVec 8)) (hA : Mem.Says w0 M (fun w => Rd w A (u8s bs))) {la : Nat} (hl : bs.length = la) (hca : la ≤ ca) :
    Does Tryd.prog 11 [.agg (u32s s).toArray, .slice A la ca] w0 M (τ := Unit) (fun _ => True) (fun _ => .tuple #[.agg (u32s (compL K s bs)).toArray, .int .i64 (compE bs)]) (fun _ => M) := by
  subst hl
  have hz : z8.length = 8 := rfl
  refine Does.enter Tryd.func11 rfl Tryd.ntmps11 rfl ?_
  (repeat (first | refine CW.seq ?_ | refine QW.then_n ?_ | refine CW.block ?_ | refine CW.ret ?_ | refine CW.skip ?_ | refine CW.exit ?_ | refine QW.then_x ?_ | refine QW.then_r ?_ | refine QW.block_n ?_ | refine QW.block_xe ?_ | refine QW.block_xn rfl ?_ | refine QW.block_r ?_))
  refine CW.region ?_
  refine OW.boxA rfl rfl (fun b2 => ?_)
  refine OW.alloc (l := u32s (List.replicate 8 0#32)) rfl (by rw [← u32s_rep]; rfl) rfl (fun b4 => ?_)
  refine OW.rv (RV.assign rfl) rfl ?_
  refine OW.nil ?_
  (repeat (first | refine CW.seq ?_ | refine QW.then_n ?_ | refine CW.block ?_ | refine CW.ret ?_ | refine CW.skip ?_ | refine CW.exit ?_ | refine QW.then_x ?_ | refine QW.then_r ?_ | refine QW.block_n ?_ | refine QW.block_xe ?_ | refine QW.block_xn rfl ?_ | refine QW.block_r ?_))
  by_cases h : bs.length = 64
  · have e1 : compL K s bs = behindL K s bs := by rw [compL, if_pos h]
    have e2 : compE bs = 0 := by rw [compE, if_pos h]
    have hb := behindL_length (K := K) (blk := bs) hs
    rw [e1, e2]
    (repeat (first | refine CW.seq ?_ | refine QW.then_n ?_ | refine CW.block ?_ | refine CW.ret ?_ | refine CW.skip ?_ | refine CW.exit ?_ | refine QW.then_x ?_ | refine QW.then_r ?_ | refine QW.block_n ?_ | refine QW.block_xe ?_ | refine QW.block_xn rfl ?_ | refine QW.block_r ?_))
    refine CW.region ?_
    refine OW.rv (RV.move rfl) rfl ?_
    refine OW.rv (RV.len rfl rfl) rfl ?_
    (first | refine OW.rv (RV.neq_t rfl rfl (by omega)) rfl ?_ | refine OW.rv (RV.neq_f rfl rfl (by omega)) rfl ?_ | refine OW.rv (RV.neq rfl rfl) rfl ?_)
    refine OW.nil ?_
    (repeat (first | refine CW.seq ?_ | refine QW.then_n ?_ | refine CW.block ?_ | refine CW.ret ?_ | refine CW.skip ?_ | refine CW.exit ?_ | refine QW.then_x ?_ | refine QW.then_r ?_ | refine QW.block_n ?_ | refine QW.block_xe ?_ | refine QW.block_xn rfl ?_ | refine QW.block_r ?_))
    (first | refine CW.cond_t rfl ?_ | refine CW.cond_f rfl ?_ | refine CW.cond_p rfl (fun hq => ?_) (fun hq => ?_) | refine CW.cond_np rfl (fun hq => ?_) (fun hq => ?_) | refine CW.cond rfl (fun hq => ?_) (fun hq => ?_))
    (repeat (first | refine CW.seq ?_ | refine QW.then_n ?_ | refine CW.block ?_ | refine CW.ret ?_ | refine CW.skip ?_ | refine CW.exit ?_ | refine QW.then_x ?_ | refine QW.then_r ?_ | refine QW.block_n ?_ | refine QW.block_xe ?_ | refine QW.block_xn rfl ?_ | refine QW.block_r ?_))
    refine CW.region ?_
    (first | refine OW.rv (RV.loadW rfl (by (repeat (first | exact List.Mem.head _ | assumption | refine List.Mem.tail _ ?_)); done) (by first | rfl | assumption) rfl rfl rfl (by first | assumption | exact (u32s_length _).trans (List.length_replicate ..) | exact (u32s_length _).trans (by assumption) | rfl | (simp; done) | (simp [*]; done) | (simp [*]; rfl))) rfl ?_ | refine OW.rv (RV.loadAo rfl (by (repeat (first | exact List.Mem.head _ | assumption | refine List.Mem.tail _ ?_)); done) (by first | rfl | assumption) rfl rfl rfl (by assumption) (by first | assumption | exact (u32s_length _).trans (List.length_replicate ..) | exact (u32s_length _).trans (by assumption) | rfl | (simp; done) | (simp [*]; done) | (simp [*]; rfl))) rfl ?_ | refine OW.rv (RV.loadAs rfl rfl rfl rfl (by (repeat (first | assumption | refine Mem.Says.cons ?_)); done) (by first | assumption | exact (u32s_length _).trans (List.length_replicate ..) | exact (u32s_length _).trans (by assumption) | rfl | (simp; done) | (simp [*]; done) | (simp [*]; rfl))) rfl ?_)
    refine OW.rv (RV.move rfl) rfl ?_
    refine OW.call Tryd.call39 rfl (by rw [h]; exact behind_does w0 _ K hK hKl s hs A ca bs (Mem.Says.cons (Mem.Says.cons hA)) h (by omega)) rfl (fun u hu => ?_)
    (first | (first | refine OW.sv (SV.storeW rfl (by first | rfl | assumption) rfl (by first | exact u32s_one _ | assumption) rfl (by first | assumption | exact (u32s_length _).trans (List.length_replicate ..) | exact (u32s_length _).trans (by assumption) | rfl | (simp; done) | (simp [*]; done) | (simp [*]; rfl)) (by first | assumption | exact (u32s_length _).trans (List.length_replicate ..) | exact (u32s_length _).trans (by assumption) | rfl | (simp; done) | (simp [*]; done) | (simp [*]; rfl))) ?_ | refine OW.sv (SV.storeAs rfl (by first | rfl | assumption) rfl (by first | exact u32s_one _ | assumption) rfl (by first | assumption | exact (u32s_length _).trans (List.length_replicate ..) | exact (u32s_length _).trans (by assumption) | rfl | (simp; done) | (simp [*]; done) | (simp [*]; rfl)) (by first | assumption | (simp; done) | (simp; omega) | omega)) ?_) | (refine OW.rot1 ?_; (first | refine OW.sv (SV.storeW rfl (by first | rfl | assumption) rfl (by first | exact u32s_one _ | assumption) rfl (by first | assumption | exact (u32s_length _).trans (List.length_replicate ..) | exact (u32s_length _).trans (by assumption) | rfl | (simp; done) | (simp [*]; done) | (simp [*]; rfl)) (by first | assumption | exact (u32s_length _).trans (List.length_replicate ..) | exact (u32s_length _).trans (by assumption) | rfl | (simp; done) | (simp [*]; done) | (simp [*]; rfl))) ?_ | refine OW.sv (SV.storeAs rfl (by first | rfl | assumption) rfl (by first | exact u32s_one _ | assumption) rfl (by first | assumption | exact (u32s_length _).trans (List.length_replicate ..) | exact (u32s_length _).trans (by assumption) | rfl | (simp; done) | (simp [*]; done) | (simp [*]; rfl)) (by first | assumption | (simp; done) | (simp; omega) | omega)) ?_)) | (refine OW.rot2 ?_; (first | refine OW.sv (SV.storeW rfl (by first | rfl | assumption) rfl (by first | exact u32s_one _ | assumption) rfl (by first | assumption | exact (u32s_length _).trans (List.length_replicate ..) | exact (u32s_length _).trans (by assumption) | rfl | (simp; done) | (simp [*]; done) | (simp [*]; rfl)) (by first | assumption | exact (u32s_length _).trans (List.length_replicate ..) | exact (u32s_length _).trans (by assumption) | rfl | (simp; done) | (simp [*]; done) | (simp [*]; rfl))) ?_ | refine OW.sv (SV.storeAs rfl (by first | rfl | assumption) rfl (by first | exact u32s_one _ | assumption) rfl (by first | assumption | exact (u32s_length _).trans (List.length_replicate ..) | exact (u32s_length _).trans (by assumption) | rfl | (simp; done) | (simp [*]; done) | (simp [*]; rfl)) (by first | assumption | (simp; done) | (simp; omega) | omega)) ?_)) | (refine OW.rot3 ?_; (first | refine OW.sv (SV.storeW rfl (by first | rfl | assumption) rfl (by first | exact u32s_one _ | assumption) rfl (by first | assumption | exact (u32s_length _).trans (List.length_replicate ..) | exact (u32s_length _).trans (by assumption) | rfl | (simp; done) | (simp [*]; done) | (simp [*]; rfl)) (by first | assumption | exact (u32s_length _).trans (List.length_replicate ..) | exact (u32s_length _).trans (by assumption) | rfl | (simp; done) | (simp [*]; done) | (simp [*]; rfl))) ?_ | refine OW.sv (SV.storeAs rfl (by first | rfl | assumption) rfl (by first | exact u32s_one _ | assumption) rfl (by first | assumption | exact (u32s_length _).trans (List.length_replicate ..) | exact (u32s_length _).trans (by assumption) | rfl | (simp; done) | (simp [*]; done) | (simp [*]; rfl)) (by first | assumption | (simp; done) | (simp; omega) | omega)) ?_)) | (refine OW.rot4 ?_; (first | refine OW.sv (SV.storeW rfl (by first | rfl | assumption) rfl (by first | exact u32s_one _ | assumption) rfl (by first | assumption | exact (u32s_length _).trans (List.length_replicate ..) | exact (u32s_length _).trans (by assumption) | rfl | (simp; done) | (simp [*]; done) | (simp [*]; rfl)) (by first | assumption | exact (u32s_length _).trans (List.length_replicate ..) | exact (u32s_length _).trans (by assumption) | rfl | (simp; done) | (simp [*]; done) | (simp [*]; rfl))) ?_ | refine OW.sv (SV.storeAs rfl (by first | rfl | assumption) rfl (by first | exact u32s_one _ | assumption) rfl (by first | assumption | exact (u32s_length _).trans (List.length_replicate ..) | exact (u32s_length _).trans (by assumption) | rfl | (simp; done) | (simp [*]; done) | (simp [*]; rfl)) (by first | assumption | (simp; done) | (simp; omega) | omega)) ?_)) | (refine OW.rot5 ?_; (first | refine OW.sv (SV.storeW rfl (by first | rfl | assumption) rfl (by first | exact u32s_one _ | assumption) rfl (by first | assumption | exact (u32s_length _).trans (List.length_replicate ..) | exact (u32s_length _).trans (by assumption) | rfl | (simp; done) | (simp [*]; done) | (simp [*]; rfl)) (by first | assumption | exact (u32s_length _).trans (List.length_replicate ..) | exact (u32s_length _).trans (by assumption) | rfl | (simp; done) | (simp [*]; done) | (simp [*]; rfl))) ?_ | refine OW.sv (SV.storeAs rfl (by first | rfl | assumption) rfl (by first | exact u32s_one _ | assumption) rfl (by first | assumption | exact (u32s_length _).trans (List.length_replicate ..) | exact (u32s_length _).trans (by assumption) | rfl | (simp; done) | (simp [*]; done) | (simp [*]; rfl)) (by first | assumption | (simp; done) | (simp; omega) | omega)) ?_)) | (refine OW.rot6 ?_; (first | refine OW.sv (SV.storeW rfl (by first | rfl | assumption) rfl (by first | exact u32s_one _ | assumption) rfl (by first | assumption | exact (u32s_length _).trans (List.length_replicate ..) | exact (u32s_length _).trans (by assumption) | rfl | (simp; done) | (simp [*]; done) | (simp [*]; rfl)) (by first | assumption | exact (u32s_length _).trans (List.length_replicate ..) | exact (u32s_length _).trans (by assumption) | rfl | (simp; done) | (simp [*]; done) | (simp [*]; rfl))) ?_ | refine OW.sv (SV.storeAs rfl (by first | rfl | assumption) rfl (by first | exact u32s_one _ | assumption) rfl (by first | assumption | exact (u32s_length _).trans (List.length_replicate ..) | exact (u32s_length _).trans (by assumption) | rfl | (simp; done) | (simp [*]; done) | (simp [*]; rfl)) (by first | assumption | (simp; done) | (simp; omega) | omega)) ?_)))
    refine OW.rv (RV.assign rfl) rfl ?_
    refine OW.nil ?_
    (repeat (first | refine CW.seq ?_ | refine QW.then_n ?_ | refine CW.block ?_ | refine CW.ret ?_ | refine CW.skip ?_ | refine CW.exit ?_ | refine QW.then_x ?_ | refine QW.then_r ?_ | refine QW.block_n ?_ | refine QW.block_xe ?_ | refine QW.block_xn rfl ?_ | refine QW.block_r ?_))
    exact QW.retC2 rfl () trivial rfl rfl (List.Mem.head _) rfl rfl rfl rfl ((u32s_length _).trans hb) rfl (fun _ m => m.tail.tail)
  · have e1 : compL K s bs = z8 := by rw [compL, if_neg h]
    have e2 : compE bs = 1 := by rw [compE, if_neg h]
    rw [e1, e2]
    (repeat (first | refine CW.seq ?_ | refine QW.then_n ?_ | refine CW.block ?_ | refine CW.ret ?_ | refine CW.skip ?_ | refine CW.exit ?_ | refine QW.then_x ?_ | refine QW.then_r ?_ | refine QW.block_n ?_ | refine QW.block_xe ?_ | refine QW.block_xn rfl ?_ | refine QW.block_r ?_))
    refine CW.region ?_
    refine OW.rv (RV.move rfl) rfl ?_
    refine OW.rv (RV.len rfl rfl) rfl ?_
    refine OW.rv (RV.neq rfl rfl) rfl ?_
    refine OW.nil ?_
    (repeat (first | refine CW.seq ?_ | refine QW.then_n ?_ | refine CW.block ?_ | refine CW.ret ?_ | refine CW.skip ?_ | refine CW.exit ?_ | refine QW.then_x ?_ | refine QW.then_r ?_ | refine QW.block_n ?_ | refine QW.block_xe ?_ | refine QW.block_xn rfl ?_ | refine QW.block_r ?_))
    (first | refine CW.cond_t rfl ?_ | refine CW.cond_f rfl ?_ | refine CW.cond_p rfl (fun hq => ?_) (fun hq => ?_) | refine CW.cond_np rfl (fun hq => ?_) (fun hq => ?_) | refine CW.cond rfl (fun hq => ?_) (fun hq => ?_))
    · (repeat (first | refine CW.seq ?_ | refine QW.then_n ?_ | refine CW.block ?_ | refine CW.ret ?_ | refine CW.skip ?_ | refine CW.exit ?_ | refine QW.then_x ?_ | refine QW.then_r ?_ | refine QW.block_n ?_ | refine QW.block_xe ?_ | refine QW.block_xn rfl ?_ | refine QW.block_r ?_))
      refine CW.region ?_
      refine OW.rv (RV.build0 (l := u32s (List.replicate 8 0#32)) rfl rfl rfl (by rw [← u32s_rep]; rfl)) rfl ?_
      (first | (first | refine OW.sv (SV.storeW rfl (by first | rfl | assumption) rfl (by first | exact u32s_one _ | assumption) rfl (by first | assumption | exact (u32s_length _).trans (List.length_replicate ..) | exact (u32s_length _).trans (by assumption) | rfl | (simp; done) | (simp [*]; done) | (simp [*]; rfl)) (by first | assumption | exact (u32s_length _).trans (List.length_replicate ..) | exact (u32s_length _).trans (by assumption) | rfl | (simp; done) | (simp [*]; done) | (simp [*]; rfl))) ?_ | refine OW.sv (SV.storeAs rfl (by first | rfl | assumption) rfl (by first | exact u32s_one _ | assumption) rfl (by first | assumption | exact (u32s_length _).trans (List.length_replicate ..) | exact (u32s_length _).trans (by assumption) | rfl | (simp; done) | (simp [*]; done) | (simp [*]; rfl)) (by first | assumption | (simp; done) | (simp; omega) | omega)) ?_) | (refine OW.rot1 ?_; (first | refine OW.sv (SV.storeW rfl (by first | rfl | assumption) rfl (by first | exact u32s_one _ | assumption) rfl (by first | assumption | exact (u32s_length _).trans (List.length_replicate ..) | exact (u32s_length _).trans (by assumption) | rfl | (simp; done) | (simp [*]; done) | (simp [*]; rfl)) (by first | assumption | exact (u32s_length _).trans (List.length_replicate ..) | exact (u32s_length _).trans (by assumption) | rfl | (simp; done) | (simp [*]; done) | (simp [*]; rfl))) ?_ | refine OW.sv (SV.storeAs rfl (by first | rfl | assumption) rfl (by first | exact u32s_one _ | assumption) rfl (by first | assumption | exact (u32s_length _).trans (List.length_replicate ..) | exact (u32s_length _).trans (by assumption) | rfl | (simp; done) | (simp [*]; done) | (simp [*]; rfl)) (by first | assumption | (simp; done) | (simp; omega) | omega)) ?_)) | (refine OW.rot2 ?_; (first | refine OW.sv (SV.storeW rfl (by first | rfl | assumption) rfl (by first | exact u32s_one _ | assumption) rfl (by first | assumption | exact (u32s_length _).trans (List.length_replicate ..) | exact (u32s_length _).trans (by assumption) | rfl | (simp; done) | (simp [*]; done) | (simp [*]; rfl)) (by first | assumption | exact (u32s_length _).trans (List.length_replicate ..) | exact (u32s_length _).trans (by assumption) | rfl | (simp; done) | (simp [*]; done) | (simp [*]; rfl))) ?_ | refine OW.sv (SV.storeAs rfl (by first | rfl | assumption) rfl (by first | exact u32s_one _ | assumption) rfl (by first | assumption | exact (u32s_length _).trans (List.length_replicate ..) | exact (u32s_length _).trans (by assumption) | rfl | (simp; done) | (simp [*]; done) | (simp [*]; rfl)) (by first | assumption | (simp; done) | (simp; omega) | omega)) ?_)) | (refine OW.rot3 ?_; (first | refine OW.sv (SV.storeW rfl (by first | rfl | assumption) rfl (by first | exact u32s_one _ | assumption) rfl (by first | assumption | exact (u32s_length _).trans (List.length_replicate ..) | exact (u32s_length _).trans (by assumption) | rfl | (simp; done) | (simp [*]; done) | (simp [*]; rfl)) (by first | assumption | exact (u32s_length _).trans (List.length_replicate ..) | exact (u32s_length _).trans (by assumption) | rfl | (simp; done) | (simp [*]; done) | (simp [*]; rfl))) ?_ | refine OW.sv (SV.storeAs rfl (by first | rfl | assumption) rfl (by first | exact u32s_one _ | assumption) rfl (by first | assumption | exact (u32s_length _).trans (List.length_replicate ..) | exact (u32s_length _).trans (by assumption) | rfl | (simp; done) | (simp [*]; done) | (simp [*]; rfl)) (by first | assumption | (simp; done) | (simp; omega) | omega)) ?_)) | (refine OW.rot4 ?_; (first | refine OW.sv (SV.storeW rfl (by first | rfl | assumption) rfl (by first | exact u32s_one _ | assumption) rfl (by first | assumption | exact (u32s_length _).trans (List.length_replicate ..) | exact (u32s_length _).trans (by assumption) | rfl | (simp; done) | (simp [*]; done) | (simp [*]; rfl)) (by first | assumption | exact (u32s_length _).trans (List.length_replicate ..) | exact (u32s_length _).trans (by assumption) | rfl | (simp; done) | (simp [*]; done) | (simp [*]; rfl))) ?_ | refine OW.sv (SV.storeAs rfl (by first | rfl | assumption) rfl (by first | exact u32s_one _ | assumption) rfl (by first | assumption | exact (u32s_length _).trans (List.length_replicate ..) | exact (u32s_length _).trans (by assumption) | rfl | (simp; done) | (simp [*]; done) | (simp [*]; rfl)) (by first | assumption | (simp; done) | (simp; omega) | omega)) ?_)) | (refine OW.rot5 ?_; (first | refine OW.sv (SV.storeW rfl (by first | rfl | assumption) rfl (by first | exact u32s_one _ | assumption) rfl (by first | assumption | exact (u32s_length _).trans (List.length_replicate ..) | exact (u32s_length _).trans (by assumption) | rfl | (simp; done) | (simp [*]; done) | (simp [*]; rfl)) (by first | assumption | exact (u32s_length _).trans (List.length_replicate ..) | exact (u32s_length _).trans (by assumption) | rfl | (simp; done) | (simp [*]; done) | (simp [*]; rfl))) ?_ | refine OW.sv (SV.storeAs rfl (by first | rfl | assumption) rfl (by first | exact u32s_one _ | assumption) rfl (by first | assumption | exact (u32s_length _).trans (List.length_replicate ..) | exact (u32s_length _).trans (by assumption) | rfl | (simp; done) | (simp [*]; done) | (simp [*]; rfl)) (by first | assumption | (simp; done) | (simp; omega) | omega)) ?_)) | (refine OW.rot6 ?_; (first | refine OW.sv (SV.storeW rfl (by first | rfl | assumption) rfl (by first | exact u32s_one _ | assumption) rfl (by first | assumption | exact (u32s_length _).trans (List.length_replicate ..) | exact (u32s_length _).trans (by assumption) | rfl | (simp; done) | (simp [*]; done) | (simp [*]; rfl)) (by first | assumption | exact (u32s_length _).trans (List.length_replicate ..) | exact (u32s_length _).trans (by assumption) | rfl | (simp; done) | (simp [*]; done) | (simp [*]; rfl))) ?_ | refine OW.sv (SV.storeAs rfl (by first | rfl | assumption) rfl (by first | exact u32s_one _ | assumption) rfl (by first | assumption | exact (u32s_length _).trans (List.length_replicate ..) | exact (u32s_length _).trans (by assumption) | rfl | (simp; done) | (simp [*]; done) | (simp [*]; rfl)) (by first | assumption | (simp; done) | (simp; omega) | omega)) ?_)))
      refine OW.rv (RV.assign rfl) rfl ?_
      refine OW.nil ?_
      (repeat (first | refine CW.seq ?_ | refine QW.then_n ?_ | refine CW.block ?_ | refine CW.ret ?_ | refine CW.skip ?_ | refine CW.exit ?_ | refine QW.then_x ?_ | refine QW.then_r ?_ | refine QW.block_n ?_ | refine QW.block_xe ?_ | refine QW.block_xn rfl ?_ | refine QW.block_r ?_))
      exact QW.retC2 rfl () trivial rfl rfl (List.Mem.head _) rfl rfl rfl rfl rfl rfl (fun _ m => m.tail.tail)
    · omega
end Go.Fw.Tryd
