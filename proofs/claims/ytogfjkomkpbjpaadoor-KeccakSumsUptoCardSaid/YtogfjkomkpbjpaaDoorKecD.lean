/- Part of a proof: rules that its law uses. -/
import Derived.Test.YtogfjkomkpbjpaaDoorKecC
namespace Go.Fw.Tryd
open Go Go.Proofs
set_option maxRecDepth 100000
set_option linter.unusedVariables false
attribute [local irreducible] permTo roundL movedL chiL sumTo mvL
theorem moved_does (w0 : World) (M : List Ent) (hTn : ∀ i, i < 25 → w0.cell? ⟨2, i, none⟩ = some (.int .i64 (turnsL.getD i 0))) (a : List (BitVec 64)) (ha : a.length = 25) : Does Tryd.prog 36 [.agg (u64s a).toArray] w0 M (τ := Unit) (fun _ => True) (fun _ => .agg (u64s (mvL a)).toArray) (fun _ => M) := by
  have hz25 : (List.replicate 25 0#64).length = 25 := List.length_replicate ..
  refine Does.enter Tryd.func36 rfl Tryd.ntmps36 rfl ?_
  (repeat (first | refine CW.seq ?_ | refine QW.then_n ?_ | refine CW.block ?_ | refine CW.ret ?_ | refine CW.skip ?_ | refine CW.exit ?_ | refine QW.then_x ?_ | refine QW.then_r ?_ | refine QW.block_n ?_ | refine QW.block_xe ?_ | refine QW.block_xn rfl ?_ | refine QW.block_r ?_))
  refine CW.region ?_
  refine OW.boxA rfl rfl (fun b1 => ?_)
  refine OW.alloc (l := u64s (List.replicate 25 0#64)) rfl (by rw [← u64s_rep]; rfl) rfl (fun b2 => ?_)
  refine OW.nil ?_
  (repeat (first | refine CW.seq ?_ | refine QW.then_n ?_ | refine CW.block ?_ | refine CW.ret ?_ | refine CW.skip ?_ | refine CW.exit ?_ | refine QW.then_x ?_ | refine QW.then_r ?_ | refine QW.block_n ?_ | refine QW.block_xe ?_ | refine QW.block_xn rfl ?_ | refine QW.block_r ?_))
  (repeat (first | refine CW.seq ?_ | refine QW.then_n ?_ | refine CW.block ?_ | refine CW.ret ?_ | refine CW.skip ?_ | refine CW.exit ?_ | refine QW.then_x ?_ | refine QW.then_r ?_ | refine QW.block_n ?_ | refine QW.block_xe ?_ | refine QW.block_xn rfl ?_ | refine QW.block_r ?_))
  refine CW.region ?_
  refine OW.alloc (l := u64s (List.replicate 25 0#64)) rfl (by rw [← u64s_rep]; rfl) rfl (fun b3 => ?_)
  refine OW.nil ?_
  (repeat (first | refine CW.seq ?_ | refine QW.then_n ?_ | refine CW.block ?_ | refine CW.ret ?_ | refine CW.skip ?_ | refine CW.exit ?_ | refine QW.then_x ?_ | refine QW.then_r ?_ | refine QW.block_n ?_ | refine QW.block_xe ?_ | refine QW.block_xn rfl ?_ | refine QW.block_r ?_))
  (repeat (first | refine CW.seq ?_ | refine QW.then_n ?_ | refine CW.block ?_ | refine CW.ret ?_ | refine CW.skip ?_ | refine CW.exit ?_ | refine QW.then_x ?_ | refine QW.then_r ?_ | refine QW.block_n ?_ | refine QW.block_xe ?_ | refine QW.block_xn rfl ?_ | refine QW.block_r ?_))
  refine CW.region ?_
  refine OW.rv (RV.assign rfl) rfl ?_
  refine OW.nil ?_
  (repeat (first | refine CW.seq ?_ | refine QW.then_n ?_ | refine CW.block ?_ | refine CW.ret ?_ | refine CW.skip ?_ | refine CW.exit ?_ | refine QW.then_x ?_ | refine QW.then_r ?_ | refine QW.block_n ?_ | refine QW.block_xe ?_ | refine QW.block_xn rfl ?_ | refine QW.block_r ?_))
  refine CW.loop (σ := Nat × List (BitVec 64)) (fun s => s.1 ≤ 5 ∧ s.2.length = 25 ∧ ∀ k, k < 25 → k % 5 < s.1 → g64 s.2 (goesN k) = rotl (g64 a k) (turnsL.getD k 0).toNat) (fun s => [(1, ptr (some b1) 0), (2, ptr (some b2) 0), (3, ptr (some b3) 0), (4, .int .i64 (s.1 : Int))])
    (fun s => (some b3, blk (u64s s.2) 23) :: (some b2, blk (u64s (List.replicate 25 0#64)) 23) :: (some b1, blk (u64s a) 23) :: M) (fun s => 5 - s.1) (0, List.replicate 25 0#64) ⟨by simp, hz25, fun k _ h => by omega⟩ ⟨rfl, rfl, rfl, rfl, trivial⟩ (fun _ m => m) ?_
  rintro ⟨x, b⟩ ⟨hx, hb, hbe⟩
  dsimp only at hx hb hbe ⊢
  (repeat (first | refine CW.seq ?_ | refine QW.then_n ?_ | refine CW.block ?_ | refine CW.ret ?_ | refine CW.skip ?_ | refine CW.exit ?_ | refine QW.then_x ?_ | refine QW.then_r ?_ | refine QW.block_n ?_ | refine QW.block_xe ?_ | refine QW.block_xn rfl ?_ | refine QW.block_r ?_))
  refine CW.region ?_
  refine OW.rv (RV.move rfl) rfl ?_
  refine OW.rv (RV.lss rfl rfl) rfl ?_
  refine OW.nil ?_
  (repeat (first | refine CW.seq ?_ | refine QW.then_n ?_ | refine CW.block ?_ | refine CW.ret ?_ | refine CW.skip ?_ | refine CW.exit ?_ | refine QW.then_x ?_ | refine QW.then_r ?_ | refine QW.block_n ?_ | refine QW.block_xe ?_ | refine QW.block_xn rfl ?_ | refine QW.block_r ?_))
  (first | refine CW.cond_t rfl ?_ | refine CW.cond_f rfl ?_ | refine CW.cond_p rfl (fun hxlt => ?_) (fun hxlt => ?_) | refine CW.cond_np rfl (fun hxlt => ?_) (fun hxlt => ?_) | refine CW.cond rfl (fun hxlt => ?_) (fun hxlt => ?_))
  · have hx2 : x < 5 := by omega
    (repeat (first | refine CW.seq ?_ | refine QW.then_n ?_ | refine CW.block ?_ | refine CW.ret ?_ | refine CW.skip ?_ | refine CW.exit ?_ | refine QW.then_x ?_ | refine QW.then_r ?_ | refine QW.block_n ?_ | refine QW.block_xe ?_ | refine QW.block_xn rfl ?_ | refine QW.block_r ?_))
    refine CW.region ?_
    refine OW.rv (RV.assign rfl) rfl ?_
    refine OW.nil ?_
    (repeat (first | refine CW.seq ?_ | refine QW.then_n ?_ | refine CW.block ?_ | refine CW.ret ?_ | refine CW.skip ?_ | refine CW.exit ?_ | refine QW.then_x ?_ | refine QW.then_r ?_ | refine QW.block_n ?_ | refine QW.block_xe ?_ | refine QW.block_xn rfl ?_ | refine QW.block_r ?_))
    refine CW.loop (σ := Nat × List (BitVec 64)) (fun s => s.1 ≤ 5 ∧ s.2.length = 25 ∧ ∀ k, k < 25 → (k % 5 < x ∨ (k % 5 = x ∧ k / 5 < s.1)) → g64 s.2 (goesN k) = rotl (g64 a k) (turnsL.getD k 0).toNat) (fun s => [(1, ptr (some b1) 0), (2, ptr (some b2) 0), (3, ptr (some b3) 0), (4, .int .i64 (x : Int)), (5, .int .i64 (s.1 : Int))])
      (fun s => (some b3, blk (u64s s.2) 23) :: (some b2, blk (u64s (List.replicate 25 0#64)) 23) :: (some b1, blk (u64s a) 23) :: M) (fun s => 5 - s.1) (0, b) ⟨by simp, hb, fun k h1 h2 => hbe k h1 (by omega)⟩ ⟨rfl, rfl, rfl, rfl, rfl, trivial⟩ (fun _ m => m) ?_
    clear hb hbe b
    rintro ⟨y, b⟩ ⟨hy, hb, hbe⟩
    dsimp only at hy hb hbe ⊢
    (repeat (first | refine CW.seq ?_ | refine QW.then_n ?_ | refine CW.block ?_ | refine CW.ret ?_ | refine CW.skip ?_ | refine CW.exit ?_ | refine QW.then_x ?_ | refine QW.then_r ?_ | refine QW.block_n ?_ | refine QW.block_xe ?_ | refine QW.block_xn rfl ?_ | refine QW.block_r ?_))
    refine CW.region ?_
    refine OW.rv (RV.move rfl) rfl ?_
    refine OW.rv (RV.lss rfl rfl) rfl ?_
    refine OW.nil ?_
    (repeat (first | refine CW.seq ?_ | refine QW.then_n ?_ | refine CW.block ?_ | refine CW.ret ?_ | refine CW.skip ?_ | refine CW.exit ?_ | refine QW.then_x ?_ | refine QW.then_r ?_ | refine QW.block_n ?_ | refine QW.block_xe ?_ | refine QW.block_xn rfl ?_ | refine QW.block_r ?_))
    (first | refine CW.cond_t rfl ?_ | refine CW.cond_f rfl ?_ | refine CW.cond_p rfl (fun hylt => ?_) (fun hylt => ?_) | refine CW.cond_np rfl (fun hylt => ?_) (fun hylt => ?_) | refine CW.cond rfl (fun hylt => ?_) (fun hylt => ?_))
    · have hy2 : y < 5 := by omega
      have hi : x + 5 * y < 25 := by omega
      have hg1 : goesN (x + 5 * y) < 25 := goes_lt ⟨x + 5 * y, hi⟩
      have htr : 0 ≤ turnsL.getD (x + 5 * y) 0 ∧ turnsL.getD (x + 5 * y) 0 < 64 := turns_in ⟨x + 5 * y, hi⟩
      have qa : (u64s a)[0 + (x + 5 * y)]? = some (U64 (g64 a (x + 5 * y))) := by rw [Nat.zero_add]; exact u64s_get (by omega)
      have qt : Mem.Says w0 M (fun w => w.cell? ((⟨2, 0, none⟩ : Addr).add (((x + 5 * y : Nat) : Int).toNat * 1)) = some (.int .i64 (turnsL.getD (x + 5 * y) 0))) := fun w m => m.oldSome (by rw [Addr.add_none, Nat.zero_add, Nat.mul_one, Int.toNat_natCast]; exact hTn _ hi)
      have hge : (y : Int) % 5 + 5 * ((2 * (x : Int) + 3 * (y : Int)) % 5) = (goesN (x + 5 * y) : Int) := by
        unfold goesN
        rw [show (x + 5 * y) / 5 = y by omega, show (x + 5 * y) % 5 = x by omega, show 2 * (x : Int) + 3 * (y : Int) = ((2 * x + 3 * y : Nat) : Int) by omega]; omega
      have hl2 : 0 + goesN (x + 5 * y) < (u64s b).length := by rw [u64s_length]; omega
      (repeat (first | refine CW.seq ?_ | refine QW.then_n ?_ | refine CW.block ?_ | refine CW.ret ?_ | refine CW.skip ?_ | refine CW.exit ?_ | refine QW.then_x ?_ | refine QW.then_r ?_ | refine QW.block_n ?_ | refine QW.block_xe ?_ | refine QW.block_xn rfl ?_ | refine QW.block_r ?_))
      refine CW.drawsT 19 mixed (by kernel_rfl) ?_
      refine TW.rv (RV.move rfl) rfl ?_
      refine TW.rv (RV.move rfl) rfl ?_
      refine TW.rv (RV.mul rfl rfl (by omega)) rfl ?_
      refine TW.rv (RV.move rfl) rfl ?_
      refine TW.rv (RV.mul rfl rfl (by omega)) rfl ?_
      refine TW.rv (RV.add rfl rfl (by omega)) rfl ?_
      refine TW.call _ Tryd.call53 rfl (at_is w0 _ _ _ (by omega) (by omega) hge) (fun _ _ => rfl) (fun _ _ _ m => m) rfl ?_
      refine TW.rv (RV.move rfl) rfl ?_
      refine TW.rv (RV.move rfl) rfl ?_
      refine TW.call _ Tryd.call53 rfl (at_is w0 _ _ _ (by omega) (by omega) (v := x + 5 * y) (by omega)) (fun _ _ => rfl) (fun _ _ _ m => m) rfl ?_
      (first | refine TW.rv (RV.idx_a _ rfl rfl rfl rfl rfl (by omega)) rfl ?_ | refine TW.rv (RV.idx_az rfl rfl (by omega) rfl rfl (by omega)) rfl ?_)
      (first | refine TW.rv (RV.load rfl (by (repeat (first | exact List.Mem.head _ | assumption | refine List.Mem.tail _ ?_)); done) (by first | rfl | assumption) rfl rfl (by first | rfl | assumption)) rfl ?_ | refine TW.rv (RV.load_at rfl rfl rfl (by (repeat (first | assumption | refine Mem.Says.cons ?_)); done)) rfl ?_)
      refine TW.rv (RV.move rfl) rfl ?_
      refine TW.rv (RV.move rfl) rfl ?_
      refine TW.call _ Tryd.call53 rfl (at_is w0 _ _ _ (by omega) (by omega) (v := x + 5 * y) (by omega)) (fun _ _ => rfl) (fun _ _ _ m => m) rfl ?_
      refine TW.rv (RV.idx_arr_at rfl rfl rfl rfl (by omega) (by omega)) rfl ?_
      (first | refine TW.rv (RV.load rfl (by (repeat (first | exact List.Mem.head _ | assumption | refine List.Mem.tail _ ?_)); done) (by first | rfl | assumption) rfl rfl (by first | rfl | assumption)) rfl ?_ | refine TW.rv (RV.load_at rfl rfl rfl (by (repeat (first | assumption | refine Mem.Says.cons ?_)); done)) rfl ?_)
      refine TW.call _ Tryd.call54 rfl (Rot_does w0 _ _ _ htr.1 htr.2) (fun _ _ => rfl) (fun _ _ _ m => m) rfl ?_
      (first | refine TW.rv (RV.idx_a _ rfl rfl rfl rfl rfl (by omega)) rfl ?_ | refine TW.rv (RV.idx_az rfl rfl (by omega) rfl rfl (by omega)) rfl ?_)
      refine TW.nil ?_
      (first | refine OW.sv (SV.store rfl (by first | rfl | assumption) rfl rfl rfl (by first | assumption | (simp; done) | (simp; omega) | omega)) ?_ | (refine OW.rot1 ?_; refine OW.sv (SV.store rfl (by first | rfl | assumption) rfl rfl rfl (by first | assumption | (simp; done) | (simp; omega) | omega)) ?_) | (refine OW.rot2 ?_; refine OW.sv (SV.store rfl (by first | rfl | assumption) rfl rfl rfl (by first | assumption | (simp; done) | (simp; omega) | omega)) ?_) | (refine OW.rot3 ?_; refine OW.sv (SV.store rfl (by first | rfl | assumption) rfl rfl rfl (by first | assumption | (simp; done) | (simp; omega) | omega)) ?_) | (refine OW.rot4 ?_; refine OW.sv (SV.store rfl (by first | rfl | assumption) rfl rfl rfl (by first | assumption | (simp; done) | (simp; omega) | omega)) ?_))
      refine OW.nil ?_
      (repeat (first | refine CW.seq ?_ | refine QW.then_n ?_ | refine CW.block ?_ | refine CW.ret ?_ | refine CW.skip ?_ | refine CW.exit ?_ | refine QW.then_x ?_ | refine QW.then_r ?_ | refine QW.block_n ?_ | refine QW.block_xe ?_ | refine QW.block_xn rfl ?_ | refine QW.block_r ?_))
      (repeat (first | refine CW.seq ?_ | refine QW.then_n ?_ | refine CW.block ?_ | refine CW.ret ?_ | refine CW.skip ?_ | refine CW.exit ?_ | refine QW.then_x ?_ | refine QW.then_r ?_ | refine QW.block_n ?_ | refine QW.block_xe ?_ | refine QW.block_xn rfl ?_ | refine QW.block_r ?_))
      refine CW.region ?_
      refine OW.rv (RV.move rfl) rfl ?_
      refine OW.rv (RV.add rfl rfl (by omega)) rfl ?_
      refine OW.rv (RV.assign rfl) rfl ?_
      refine OW.nil ?_
      (repeat (first | refine CW.seq ?_ | refine QW.then_n ?_ | refine CW.block ?_ | refine CW.ret ?_ | refine CW.skip ?_ | refine CW.exit ?_ | refine QW.then_x ?_ | refine QW.then_r ?_ | refine QW.block_n ?_ | refine QW.block_xe ?_ | refine QW.block_xn rfl ?_ | refine QW.block_r ?_))
      refine QW.again (y + 1, b.set (goesN (x + 5 * y)) (rotl (g64 a (x + 5 * y)) (turnsL.getD (x + 5 * y) 0).toNat)) ⟨by show y + 1 ≤ 5; omega, by simp [hb], fun k h1 h2 => ?_⟩ (by show 5 - (y + 1) < 5 - y; omega) ⟨rfl, rfl, rfl, rfl, rfl, trivial⟩ (fun _ m => ?_)
      · have h2' : k % 5 < x ∨ (k % 5 = x ∧ k / 5 < y + 1) := h2
        show g64 (b.set (goesN (x + 5 * y)) _) (goesN k) = _
        rw [g64_set _ _ _ _ (by omega)]
        by_cases hk2 : goesN k = goesN (x + 5 * y)
        · have := congrArg Fin.val (goes_inj ⟨k, h1⟩ ⟨x + 5 * y, hi⟩ hk2)
          simp only at this
          subst this; rw [if_pos rfl]
        · rw [if_neg hk2]
          refine hbe k h1 ?_
          by_cases hk3 : k = x + 5 * y
          · exact absurd (by rw [hk3]) hk2
          · omega
      · rw [Nat.zero_add, u64s_set'] at m
        exact m
    · (repeat (first | refine CW.seq ?_ | refine QW.then_n ?_ | refine CW.block ?_ | refine CW.ret ?_ | refine CW.skip ?_ | refine CW.exit ?_ | refine QW.then_x ?_ | refine QW.then_r ?_ | refine QW.block_n ?_ | refine QW.block_xe ?_ | refine QW.block_xn rfl ?_ | refine QW.block_r ?_))
      refine CW.region ?_
      refine OW.rv (RV.move rfl) rfl ?_
      refine OW.rv (RV.add rfl rfl (by omega)) rfl ?_
      refine OW.rv (RV.assign rfl) rfl ?_
      refine OW.nil ?_
      (repeat (first | refine CW.seq ?_ | refine QW.then_n ?_ | refine CW.block ?_ | refine CW.ret ?_ | refine CW.skip ?_ | refine CW.exit ?_ | refine QW.then_x ?_ | refine QW.then_r ?_ | refine QW.block_n ?_ | refine QW.block_xe ?_ | refine QW.block_xn rfl ?_ | refine QW.block_r ?_))
      exact QW.again (x + 1, b) ⟨by show x + 1 ≤ 5; omega, hb, fun k h1 h2 => hbe k h1 (by have h2' : k % 5 < x + 1 := h2; omega)⟩ (by show 5 - (x + 1) < 5 - x; omega) ⟨rfl, rfl, rfl, rfl, trivial⟩ (fun _ m => m)
  have hx5 : x = 5 := by omega
  subst hx5
  have eb : b = mvL a := mvL_of hb (fun i hi => hbe i hi (by omega))
  rw [← eb]
  (repeat (first | refine CW.seq ?_ | refine QW.then_n ?_ | refine CW.block ?_ | refine CW.ret ?_ | refine CW.skip ?_ | refine CW.exit ?_ | refine QW.then_x ?_ | refine QW.then_r ?_ | refine QW.block_n ?_ | refine QW.block_xe ?_ | refine QW.block_xn rfl ?_ | refine QW.block_r ?_))
  refine CW.region ?_
  (first | refine OW.rv (RV.loadW rfl (by (repeat (first | exact List.Mem.head _ | assumption | refine List.Mem.tail _ ?_)); done) (by first | rfl | assumption) rfl rfl rfl (by first | assumption | exact (u64s_length _).trans (List.length_replicate ..) | exact (u64s_length _).trans (by assumption) | rfl | (simp; done) | (simp [*]; done) | (simp [*]; rfl))) rfl ?_ | refine OW.rv (RV.loadAo rfl (by (repeat (first | exact List.Mem.head _ | assumption | refine List.Mem.tail _ ?_)); done) (by first | rfl | assumption) rfl rfl rfl (by assumption) (by first | assumption | exact (u64s_length _).trans (List.length_replicate ..) | exact (u64s_length _).trans (by assumption) | rfl | (simp; done) | (simp [*]; done) | (simp [*]; rfl))) rfl ?_ | refine OW.rv (RV.loadAs rfl rfl rfl rfl (by (repeat (first | assumption | refine Mem.Says.cons ?_)); done) (by first | assumption | exact (u64s_length _).trans (List.length_replicate ..) | exact (u64s_length _).trans (by assumption) | rfl | (simp; done) | (simp [*]; done) | (simp [*]; rfl))) rfl ?_)
  (first | (first | refine OW.sv (SV.storeW rfl (by first | rfl | assumption) rfl (by first | exact u64s_one _ | assumption) rfl (by first | assumption | exact (u64s_length _).trans (List.length_replicate ..) | exact (u64s_length _).trans (by assumption) | rfl | (simp; done) | (simp [*]; done) | (simp [*]; rfl)) (by first | assumption | exact (u64s_length _).trans (List.length_replicate ..) | exact (u64s_length _).trans (by assumption) | rfl | (simp; done) | (simp [*]; done) | (simp [*]; rfl))) ?_ | refine OW.sv (SV.storeAs rfl (by first | rfl | assumption) rfl (by first | exact u64s_one _ | assumption) rfl (by first | assumption | exact (u64s_length _).trans (List.length_replicate ..) | exact (u64s_length _).trans (by assumption) | rfl | (simp; done) | (simp [*]; done) | (simp [*]; rfl)) (by first | assumption | (simp; done) | (simp; omega) | omega)) ?_) | (refine OW.rot1 ?_; (first | refine OW.sv (SV.storeW rfl (by first | rfl | assumption) rfl (by first | exact u64s_one _ | assumption) rfl (by first | assumption | exact (u64s_length _).trans (List.length_replicate ..) | exact (u64s_length _).trans (by assumption) | rfl | (simp; done) | (simp [*]; done) | (simp [*]; rfl)) (by first | assumption | exact (u64s_length _).trans (List.length_replicate ..) | exact (u64s_length _).trans (by assumption) | rfl | (simp; done) | (simp [*]; done) | (simp [*]; rfl))) ?_ | refine OW.sv (SV.storeAs rfl (by first | rfl | assumption) rfl (by first | exact u64s_one _ | assumption) rfl (by first | assumption | exact (u64s_length _).trans (List.length_replicate ..) | exact (u64s_length _).trans (by assumption) | rfl | (simp; done) | (simp [*]; done) | (simp [*]; rfl)) (by first | assumption | (simp; done) | (simp; omega) | omega)) ?_)) | (refine OW.rot2 ?_; (first | refine OW.sv (SV.storeW rfl (by first | rfl | assumption) rfl (by first | exact u64s_one _ | assumption) rfl (by first | assumption | exact (u64s_length _).trans (List.length_replicate ..) | exact (u64s_length _).trans (by assumption) | rfl | (simp; done) | (simp [*]; done) | (simp [*]; rfl)) (by first | assumption | exact (u64s_length _).trans (List.length_replicate ..) | exact (u64s_length _).trans (by assumption) | rfl | (simp; done) | (simp [*]; done) | (simp [*]; rfl))) ?_ | refine OW.sv (SV.storeAs rfl (by first | rfl | assumption) rfl (by first | exact u64s_one _ | assumption) rfl (by first | assumption | exact (u64s_length _).trans (List.length_replicate ..) | exact (u64s_length _).trans (by assumption) | rfl | (simp; done) | (simp [*]; done) | (simp [*]; rfl)) (by first | assumption | (simp; done) | (simp; omega) | omega)) ?_)) | (refine OW.rot3 ?_; (first | refine OW.sv (SV.storeW rfl (by first | rfl | assumption) rfl (by first | exact u64s_one _ | assumption) rfl (by first | assumption | exact (u64s_length _).trans (List.length_replicate ..) | exact (u64s_length _).trans (by assumption) | rfl | (simp; done) | (simp [*]; done) | (simp [*]; rfl)) (by first | assumption | exact (u64s_length _).trans (List.length_replicate ..) | exact (u64s_length _).trans (by assumption) | rfl | (simp; done) | (simp [*]; done) | (simp [*]; rfl))) ?_ | refine OW.sv (SV.storeAs rfl (by first | rfl | assumption) rfl (by first | exact u64s_one _ | assumption) rfl (by first | assumption | exact (u64s_length _).trans (List.length_replicate ..) | exact (u64s_length _).trans (by assumption) | rfl | (simp; done) | (simp [*]; done) | (simp [*]; rfl)) (by first | assumption | (simp; done) | (simp; omega) | omega)) ?_)) | (refine OW.rot4 ?_; (first | refine OW.sv (SV.storeW rfl (by first | rfl | assumption) rfl (by first | exact u64s_one _ | assumption) rfl (by first | assumption | exact (u64s_length _).trans (List.length_replicate ..) | exact (u64s_length _).trans (by assumption) | rfl | (simp; done) | (simp [*]; done) | (simp [*]; rfl)) (by first | assumption | exact (u64s_length _).trans (List.length_replicate ..) | exact (u64s_length _).trans (by assumption) | rfl | (simp; done) | (simp [*]; done) | (simp [*]; rfl))) ?_ | refine OW.sv (SV.storeAs rfl (by first | rfl | assumption) rfl (by first | exact u64s_one _ | assumption) rfl (by first | assumption | exact (u64s_length _).trans (List.length_replicate ..) | exact (u64s_length _).trans (by assumption) | rfl | (simp; done) | (simp [*]; done) | (simp [*]; rfl)) (by first | assumption | (simp; done) | (simp; omega) | omega)) ?_)) | (refine OW.rot5 ?_; (first | refine OW.sv (SV.storeW rfl (by first | rfl | assumption) rfl (by first | exact u64s_one _ | assumption) rfl (by first | assumption | exact (u64s_length _).trans (List.length_replicate ..) | exact (u64s_length _).trans (by assumption) | rfl | (simp; done) | (simp [*]; done) | (simp [*]; rfl)) (by first | assumption | exact (u64s_length _).trans (List.length_replicate ..) | exact (u64s_length _).trans (by assumption) | rfl | (simp; done) | (simp [*]; done) | (simp [*]; rfl))) ?_ | refine OW.sv (SV.storeAs rfl (by first | rfl | assumption) rfl (by first | exact u64s_one _ | assumption) rfl (by first | assumption | exact (u64s_length _).trans (List.length_replicate ..) | exact (u64s_length _).trans (by assumption) | rfl | (simp; done) | (simp [*]; done) | (simp [*]; rfl)) (by first | assumption | (simp; done) | (simp; omega) | omega)) ?_)) | (refine OW.rot6 ?_; (first | refine OW.sv (SV.storeW rfl (by first | rfl | assumption) rfl (by first | exact u64s_one _ | assumption) rfl (by first | assumption | exact (u64s_length _).trans (List.length_replicate ..) | exact (u64s_length _).trans (by assumption) | rfl | (simp; done) | (simp [*]; done) | (simp [*]; rfl)) (by first | assumption | exact (u64s_length _).trans (List.length_replicate ..) | exact (u64s_length _).trans (by assumption) | rfl | (simp; done) | (simp [*]; done) | (simp [*]; rfl))) ?_ | refine OW.sv (SV.storeAs rfl (by first | rfl | assumption) rfl (by first | exact u64s_one _ | assumption) rfl (by first | assumption | exact (u64s_length _).trans (List.length_replicate ..) | exact (u64s_length _).trans (by assumption) | rfl | (simp; done) | (simp [*]; done) | (simp [*]; rfl)) (by first | assumption | (simp; done) | (simp; omega) | omega)) ?_)))
  refine OW.nil ?_
  (repeat (first | refine CW.seq ?_ | refine QW.then_n ?_ | refine CW.block ?_ | refine CW.ret ?_ | refine CW.skip ?_ | refine CW.exit ?_ | refine QW.then_x ?_ | refine QW.then_r ?_ | refine QW.block_n ?_ | refine QW.block_xe ?_ | refine QW.block_xn rfl ?_ | refine QW.block_r ?_))
  exact QW.retC1 rfl () trivial rfl (List.Mem.head _) rfl rfl rfl rfl ((u64s_length _).trans hb) rfl (fun _ m => m.tail.tail.tail)
theorem mixed_does (w0 : World) (M : List Ent) (a : List (BitVec 64)) (ha : a.length = 25) : Does Tryd.prog 37 [.agg (u64s a).toArray] w0 M (τ := Unit) (fun _ => True) (fun _ => .agg (u64s (chiL a)).toArray) (fun _ => M) := by
  have hz25 : (List.replicate 25 0#64).length = 25 := List.length_replicate ..
  refine Does.enter Tryd.func37 rfl Tryd.ntmps37 rfl ?_
  (repeat (first | refine CW.seq ?_ | refine QW.then_n ?_ | refine CW.block ?_ | refine CW.ret ?_ | refine CW.skip ?_ | refine CW.exit ?_ | refine QW.then_x ?_ | refine QW.then_r ?_ | refine QW.block_n ?_ | refine QW.block_xe ?_ | refine QW.block_xn rfl ?_ | refine QW.block_r ?_))
  refine CW.region ?_
  refine OW.boxA rfl rfl (fun b1 => ?_)
  refine OW.alloc (l := u64s (List.replicate 25 0#64)) rfl (by rw [← u64s_rep]; rfl) rfl (fun b2 => ?_)
  refine OW.nil ?_
  (repeat (first | refine CW.seq ?_ | refine QW.then_n ?_ | refine CW.block ?_ | refine CW.ret ?_ | refine CW.skip ?_ | refine CW.exit ?_ | refine QW.then_x ?_ | refine QW.then_r ?_ | refine QW.block_n ?_ | refine QW.block_xe ?_ | refine QW.block_xn rfl ?_ | refine QW.block_r ?_))
  (repeat (first | refine CW.seq ?_ | refine QW.then_n ?_ | refine CW.block ?_ | refine CW.ret ?_ | refine CW.skip ?_ | refine CW.exit ?_ | refine QW.then_x ?_ | refine QW.then_r ?_ | refine QW.block_n ?_ | refine QW.block_xe ?_ | refine QW.block_xn rfl ?_ | refine QW.block_r ?_))
  refine CW.region ?_
  refine OW.alloc (l := u64s (List.replicate 25 0#64)) rfl (by rw [← u64s_rep]; rfl) rfl (fun b3 => ?_)
  refine OW.nil ?_
  (repeat (first | refine CW.seq ?_ | refine QW.then_n ?_ | refine CW.block ?_ | refine CW.ret ?_ | refine CW.skip ?_ | refine CW.exit ?_ | refine QW.then_x ?_ | refine QW.then_r ?_ | refine QW.block_n ?_ | refine QW.block_xe ?_ | refine QW.block_xn rfl ?_ | refine QW.block_r ?_))
  (repeat (first | refine CW.seq ?_ | refine QW.then_n ?_ | refine CW.block ?_ | refine CW.ret ?_ | refine CW.skip ?_ | refine CW.exit ?_ | refine QW.then_x ?_ | refine QW.then_r ?_ | refine QW.block_n ?_ | refine QW.block_xe ?_ | refine QW.block_xn rfl ?_ | refine QW.block_r ?_))
  refine CW.region ?_
  refine OW.rv (RV.assign rfl) rfl ?_
  refine OW.nil ?_
  (repeat (first | refine CW.seq ?_ | refine QW.then_n ?_ | refine CW.block ?_ | refine CW.ret ?_ | refine CW.skip ?_ | refine CW.exit ?_ | refine QW.then_x ?_ | refine QW.then_r ?_ | refine QW.block_n ?_ | refine QW.block_xe ?_ | refine QW.block_xn rfl ?_ | refine QW.block_r ?_))
  refine CW.loop (σ := Nat × List (BitVec 64)) (fun s => s.1 ≤ 5 ∧ s.2.length = 25 ∧ ∀ k, k < 25 → k % 5 < s.1 → g64 s.2 k = chiE a k) (fun s => [(1, ptr (some b1) 0), (2, ptr (some b2) 0), (3, ptr (some b3) 0), (4, .int .i64 (s.1 : Int))])
    (fun s => (some b3, blk (u64s s.2) 23) :: (some b2, blk (u64s (List.replicate 25 0#64)) 23) :: (some b1, blk (u64s a) 23) :: M) (fun s => 5 - s.1) (0, List.replicate 25 0#64) ⟨by simp, hz25, fun k _ h => by omega⟩ ⟨rfl, rfl, rfl, rfl, trivial⟩ (fun _ m => m) ?_
  rintro ⟨x, b⟩ ⟨hx, hb, hbe⟩
  dsimp only at hx hb hbe ⊢
  (repeat (first | refine CW.seq ?_ | refine QW.then_n ?_ | refine CW.block ?_ | refine CW.ret ?_ | refine CW.skip ?_ | refine CW.exit ?_ | refine QW.then_x ?_ | refine QW.then_r ?_ | refine QW.block_n ?_ | refine QW.block_xe ?_ | refine QW.block_xn rfl ?_ | refine QW.block_r ?_))
  refine CW.region ?_
  refine OW.rv (RV.move rfl) rfl ?_
  refine OW.rv (RV.lss rfl rfl) rfl ?_
  refine OW.nil ?_
  (repeat (first | refine CW.seq ?_ | refine QW.then_n ?_ | refine CW.block ?_ | refine CW.ret ?_ | refine CW.skip ?_ | refine CW.exit ?_ | refine QW.then_x ?_ | refine QW.then_r ?_ | refine QW.block_n ?_ | refine QW.block_xe ?_ | refine QW.block_xn rfl ?_ | refine QW.block_r ?_))
  (first | refine CW.cond_t rfl ?_ | refine CW.cond_f rfl ?_ | refine CW.cond_p rfl (fun hxlt => ?_) (fun hxlt => ?_) | refine CW.cond_np rfl (fun hxlt => ?_) (fun hxlt => ?_) | refine CW.cond rfl (fun hxlt => ?_) (fun hxlt => ?_))
  · have hx2 : x < 5 := by omega
    (repeat (first | refine CW.seq ?_ | refine QW.then_n ?_ | refine CW.block ?_ | refine CW.ret ?_ | refine CW.skip ?_ | refine CW.exit ?_ | refine QW.then_x ?_ | refine QW.then_r ?_ | refine QW.block_n ?_ | refine QW.block_xe ?_ | refine QW.block_xn rfl ?_ | refine QW.block_r ?_))
    refine CW.region ?_
    refine OW.rv (RV.assign rfl) rfl ?_
    refine OW.nil ?_
    (repeat (first | refine CW.seq ?_ | refine QW.then_n ?_ | refine CW.block ?_ | refine CW.ret ?_ | refine CW.skip ?_ | refine CW.exit ?_ | refine QW.then_x ?_ | refine QW.then_r ?_ | refine QW.block_n ?_ | refine QW.block_xe ?_ | refine QW.block_xn rfl ?_ | refine QW.block_r ?_))
    refine CW.loop (σ := Nat × List (BitVec 64)) (fun s => s.1 ≤ 5 ∧ s.2.length = 25 ∧ ∀ k, k < 25 → (k % 5 < x ∨ (k % 5 = x ∧ k / 5 < s.1)) → g64 s.2 k = chiE a k) (fun s => [(1, ptr (some b1) 0), (2, ptr (some b2) 0), (3, ptr (some b3) 0), (4, .int .i64 (x : Int)), (5, .int .i64 (s.1 : Int))])
      (fun s => (some b3, blk (u64s s.2) 23) :: (some b2, blk (u64s (List.replicate 25 0#64)) 23) :: (some b1, blk (u64s a) 23) :: M) (fun s => 5 - s.1) (0, b) ⟨by simp, hb, fun k h1 h2 => hbe k h1 (by omega)⟩ ⟨rfl, rfl, rfl, rfl, rfl, trivial⟩ (fun _ m => m) ?_
    clear hb hbe b
    rintro ⟨y, b⟩ ⟨hy, hb, hbe⟩
    dsimp only at hy hb hbe ⊢
    (repeat (first | refine CW.seq ?_ | refine QW.then_n ?_ | refine CW.block ?_ | refine CW.ret ?_ | refine CW.skip ?_ | refine CW.exit ?_ | refine QW.then_x ?_ | refine QW.then_r ?_ | refine QW.block_n ?_ | refine QW.block_xe ?_ | refine QW.block_xn rfl ?_ | refine QW.block_r ?_))
    refine CW.region ?_
    refine OW.rv (RV.move rfl) rfl ?_
    refine OW.rv (RV.lss rfl rfl) rfl ?_
    refine OW.nil ?_
    (repeat (first | refine CW.seq ?_ | refine QW.then_n ?_ | refine CW.block ?_ | refine CW.ret ?_ | refine CW.skip ?_ | refine CW.exit ?_ | refine QW.then_x ?_ | refine QW.then_r ?_ | refine QW.block_n ?_ | refine QW.block_xe ?_ | refine QW.block_xn rfl ?_ | refine QW.block_r ?_))
    (first | refine CW.cond_t rfl ?_ | refine CW.cond_f rfl ?_ | refine CW.cond_p rfl (fun hylt => ?_) (fun hylt => ?_) | refine CW.cond_np rfl (fun hylt => ?_) (fun hylt => ?_) | refine CW.cond rfl (fun hylt => ?_) (fun hylt => ?_))
    · have hy2 : y < 5 := by omega
      have q : ∀ p, p < 25 → (u64s a)[0 + p]? = some (U64 (g64 a p)) := fun p hp => by rw [Nat.zero_add]; exact u64s_get (by omega)
      have q0 := q (x + 5 * y) (by omega)
      have q1 := q ((x + 1) % 5 + 5 * y) (by omega)
      have q2 := q ((x + 2) % 5 + 5 * y) (by omega)
      have hl2 : 0 + (x + 5 * y) < (u64s b).length := by rw [u64s_length]; omega
      (repeat (first | refine CW.seq ?_ | refine QW.then_n ?_ | refine CW.block ?_ | refine CW.ret ?_ | refine CW.skip ?_ | refine CW.exit ?_ | refine QW.then_x ?_ | refine QW.then_r ?_ | refine QW.block_n ?_ | refine QW.block_xe ?_ | refine QW.block_xn rfl ?_ | refine QW.block_r ?_))
      refine CW.drawsT 24 mixed (by kernel_rfl) ?_
      refine TW.rv (RV.move rfl) rfl ?_
      refine TW.rv (RV.move rfl) rfl ?_
      refine TW.call _ Tryd.call53 rfl (at_is w0 _ _ _ (by omega) (by omega) (v := x + 5 * y) (by omega)) (fun _ _ => rfl) (fun _ _ _ m => m) rfl ?_
      refine TW.rv (RV.move rfl) rfl ?_
      refine TW.rv (RV.move rfl) rfl ?_
      refine TW.call _ Tryd.call53 rfl (at_is w0 _ _ _ (by omega) (by omega) (v := x + 5 * y) (by omega)) (fun _ _ => rfl) (fun _ _ _ m => m) rfl ?_
      (first | refine TW.rv (RV.idx_a _ rfl rfl rfl rfl rfl (by omega)) rfl ?_ | refine TW.rv (RV.idx_az rfl rfl (by omega) rfl rfl (by omega)) rfl ?_)
      (first | refine TW.rv (RV.load rfl (by (repeat (first | exact List.Mem.head _ | assumption | refine List.Mem.tail _ ?_)); done) (by first | rfl | assumption) rfl rfl (by first | rfl | assumption)) rfl ?_ | refine TW.rv (RV.load_at rfl rfl rfl (by (repeat (first | assumption | refine Mem.Says.cons ?_)); done)) rfl ?_)
      refine TW.rv (RV.move rfl) rfl ?_
      refine TW.rv (RV.add rfl rfl (by omega)) rfl ?_
      refine TW.rv (RV.move rfl) rfl ?_
      refine TW.call _ Tryd.call53 rfl (at_is w0 _ _ _ (by omega) (by omega) (v := (x + 1) % 5 + 5 * y) (by omega)) (fun _ _ => rfl) (fun _ _ _ m => m) rfl ?_
      (first | refine TW.rv (RV.idx_a _ rfl rfl rfl rfl rfl (by omega)) rfl ?_ | refine TW.rv (RV.idx_az rfl rfl (by omega) rfl rfl (by omega)) rfl ?_)
      (first | refine TW.rv (RV.load rfl (by (repeat (first | exact List.Mem.head _ | assumption | refine List.Mem.tail _ ?_)); done) (by first | rfl | assumption) rfl rfl (by first | rfl | assumption)) rfl ?_ | refine TW.rv (RV.load_at rfl rfl rfl (by (repeat (first | assumption | refine Mem.Says.cons ?_)); done)) rfl ?_)
      refine TW.rv (RV.compl64 rfl (by first | rfl | exact lit64 _ rfl)) rfl ?_
      refine TW.rv (RV.move rfl) rfl ?_
      refine TW.rv (RV.add rfl rfl (by omega)) rfl ?_
      refine TW.rv (RV.move rfl) rfl ?_
      refine TW.call _ Tryd.call53 rfl (at_is w0 _ _ _ (by omega) (by omega) (v := (x + 2) % 5 + 5 * y) (by omega)) (fun _ _ => rfl) (fun _ _ _ m => m) rfl ?_
      (first | refine TW.rv (RV.idx_a _ rfl rfl rfl rfl rfl (by omega)) rfl ?_ | refine TW.rv (RV.idx_az rfl rfl (by omega) rfl rfl (by omega)) rfl ?_)
      (first | refine TW.rv (RV.load rfl (by (repeat (first | exact List.Mem.head _ | assumption | refine List.Mem.tail _ ?_)); done) (by first | rfl | assumption) rfl rfl (by first | rfl | assumption)) rfl ?_ | refine TW.rv (RV.load_at rfl rfl rfl (by (repeat (first | assumption | refine Mem.Says.cons ?_)); done)) rfl ?_)
      refine TW.rv (RV.and64 rfl (by first | rfl | exact lit64 _ rfl) rfl (by first | rfl | exact lit64 _ rfl)) rfl ?_
      refine TW.rv (RV.xor64 rfl (by first | rfl | exact lit64 _ rfl) rfl (by first | rfl | exact lit64 _ rfl)) rfl ?_
      (first | refine TW.rv (RV.idx_a _ rfl rfl rfl rfl rfl (by omega)) rfl ?_ | refine TW.rv (RV.idx_az rfl rfl (by omega) rfl rfl (by omega)) rfl ?_)
      refine TW.nil ?_
      (first | refine OW.sv (SV.store rfl (by first | rfl | assumption) rfl rfl rfl (by first | assumption | (simp; done) | (simp; omega) | omega)) ?_ | (refine OW.rot1 ?_; refine OW.sv (SV.store rfl (by first | rfl | assumption) rfl rfl rfl (by first | assumption | (simp; done) | (simp; omega) | omega)) ?_) | (refine OW.rot2 ?_; refine OW.sv (SV.store rfl (by first | rfl | assumption) rfl rfl rfl (by first | assumption | (simp; done) | (simp; omega) | omega)) ?_) | (refine OW.rot3 ?_; refine OW.sv (SV.store rfl (by first | rfl | assumption) rfl rfl rfl (by first | assumption | (simp; done) | (simp; omega) | omega)) ?_) | (refine OW.rot4 ?_; refine OW.sv (SV.store rfl (by first | rfl | assumption) rfl rfl rfl (by first | assumption | (simp; done) | (simp; omega) | omega)) ?_))
      refine OW.nil ?_
      (repeat (first | refine CW.seq ?_ | refine QW.then_n ?_ | refine CW.block ?_ | refine CW.ret ?_ | refine CW.skip ?_ | refine CW.exit ?_ | refine QW.then_x ?_ | refine QW.then_r ?_ | refine QW.block_n ?_ | refine QW.block_xe ?_ | refine QW.block_xn rfl ?_ | refine QW.block_r ?_))
      (repeat (first | refine CW.seq ?_ | refine QW.then_n ?_ | refine CW.block ?_ | refine CW.ret ?_ | refine CW.skip ?_ | refine CW.exit ?_ | refine QW.then_x ?_ | refine QW.then_r ?_ | refine QW.block_n ?_ | refine QW.block_xe ?_ | refine QW.block_xn rfl ?_ | refine QW.block_r ?_))
      refine CW.region ?_
      refine OW.rv (RV.move rfl) rfl ?_
      refine OW.rv (RV.add rfl rfl (by omega)) rfl ?_
      refine OW.rv (RV.assign rfl) rfl ?_
      refine OW.nil ?_
      (repeat (first | refine CW.seq ?_ | refine QW.then_n ?_ | refine CW.block ?_ | refine CW.ret ?_ | refine CW.skip ?_ | refine CW.exit ?_ | refine QW.then_x ?_ | refine QW.then_r ?_ | refine QW.block_n ?_ | refine QW.block_xe ?_ | refine QW.block_xn rfl ?_ | refine QW.block_r ?_))
      have ec : chiE a (x + 5 * y) = g64 a (x + 5 * y) ^^^ (~~~ (g64 a ((x + 1) % 5 + 5 * y)) &&& g64 a ((x + 2) % 5 + 5 * y)) := by
        unfold chiE
        rw [show (x + 5 * y) % 5 = x by omega, show (x + 5 * y) / 5 * 5 + (x + 1) % 5 = (x + 1) % 5 + 5 * y by omega, show (x + 5 * y) / 5 * 5 + (x + 2) % 5 = (x + 2) % 5 + 5 * y by omega]
      refine QW.again (y + 1, b.set (x + 5 * y) (chiE a (x + 5 * y))) ⟨by show y + 1 ≤ 5; omega, by simp [hb], fun k h1 h2 => ?_⟩ (by show 5 - (y + 1) < 5 - y; omega) ⟨rfl, rfl, rfl, rfl, rfl, trivial⟩ (fun _ m => ?_)
      · have h2' : k % 5 < x ∨ (k % 5 = x ∧ k / 5 < y + 1) := h2
        show g64 (b.set (x + 5 * y) (chiE a (x + 5 * y))) k = chiE a k
        rw [g64_set _ _ _ _ (by omega)]
        by_cases hk2 : k = x + 5 * y
        · subst hk2; rw [if_pos rfl]
        · rw [if_neg hk2]; exact hbe k h1 (by omega)
      · rw [ec]
        rw [Nat.zero_add, u64s_set'] at m
        exact m
    · (repeat (first | refine CW.seq ?_ | refine QW.then_n ?_ | refine CW.block ?_ | refine CW.ret ?_ | refine CW.skip ?_ | refine CW.exit ?_ | refine QW.then_x ?_ | refine QW.then_r ?_ | refine QW.block_n ?_ | refine QW.block_xe ?_ | refine QW.block_xn rfl ?_ | refine QW.block_r ?_))
      refine CW.region ?_
      refine OW.rv (RV.move rfl) rfl ?_
      refine OW.rv (RV.add rfl rfl (by omega)) rfl ?_
      refine OW.rv (RV.assign rfl) rfl ?_
      refine OW.nil ?_
      (repeat (first | refine CW.seq ?_ | refine QW.then_n ?_ | refine CW.block ?_ | refine CW.ret ?_ | refine CW.skip ?_ | refine CW.exit ?_ | refine QW.then_x ?_ | refine QW.then_r ?_ | refine QW.block_n ?_ | refine QW.block_xe ?_ | refine QW.block_xn rfl ?_ | refine QW.block_r ?_))
      exact QW.again (x + 1, b) ⟨by show x + 1 ≤ 5; omega, hb, fun k h1 h2 => hbe k h1 (by have h2' : k % 5 < x + 1 := h2; omega)⟩ (by show 5 - (x + 1) < 5 - x; omega) ⟨rfl, rfl, rfl, rfl, trivial⟩ (fun _ m => m)
  have hx5 : x = 5 := by omega
  subst hx5
  have eb : b = chiL a := chi_of hb (fun i hi => hbe i hi (by omega))
  rw [← eb]
  (repeat (first | refine CW.seq ?_ | refine QW.then_n ?_ | refine CW.block ?_ | refine CW.ret ?_ | refine CW.skip ?_ | refine CW.exit ?_ | refine QW.then_x ?_ | refine QW.then_r ?_ | refine QW.block_n ?_ | refine QW.block_xe ?_ | refine QW.block_xn rfl ?_ | refine QW.block_r ?_))
  refine CW.region ?_
  (first | refine OW.rv (RV.loadW rfl (by (repeat (first | exact List.Mem.head _ | assumption | refine List.Mem.tail _ ?_)); done) (by first | rfl | assumption) rfl rfl rfl (by first | assumption | exact (u64s_length _).trans (List.length_replicate ..) | exact (u64s_length _).trans (by assumption) | rfl | (simp; done) | (simp [*]; done) | (simp [*]; rfl))) rfl ?_ | refine OW.rv (RV.loadAo rfl (by (repeat (first | exact List.Mem.head _ | assumption | refine List.Mem.tail _ ?_)); done) (by first | rfl | assumption) rfl rfl rfl (by assumption) (by first | assumption | exact (u64s_length _).trans (List.length_replicate ..) | exact (u64s_length _).trans (by assumption) | rfl | (simp; done) | (simp [*]; done) | (simp [*]; rfl))) rfl ?_ | refine OW.rv (RV.loadAs rfl rfl rfl rfl (by (repeat (first | assumption | refine Mem.Says.cons ?_)); done) (by first | assumption | exact (u64s_length _).trans (List.length_replicate ..) | exact (u64s_length _).trans (by assumption) | rfl | (simp; done) | (simp [*]; done) | (simp [*]; rfl))) rfl ?_)
  (first | (first | refine OW.sv (SV.storeW rfl (by first | rfl | assumption) rfl (by first | exact u64s_one _ | assumption) rfl (by first | assumption | exact (u64s_length _).trans (List.length_replicate ..) | exact (u64s_length _).trans (by assumption) | rfl | (simp; done) | (simp [*]; done) | (simp [*]; rfl)) (by first | assumption | exact (u64s_length _).trans (List.length_replicate ..) | exact (u64s_length _).trans (by assumption) | rfl | (simp; done) | (simp [*]; done) | (simp [*]; rfl))) ?_ | refine OW.sv (SV.storeAs rfl (by first | rfl | assumption) rfl (by first | exact u64s_one _ | assumption) rfl (by first | assumption | exact (u64s_length _).trans (List.length_replicate ..) | exact (u64s_length _).trans (by assumption) | rfl | (simp; done) | (simp [*]; done) | (simp [*]; rfl)) (by first | assumption | (simp; done) | (simp; omega) | omega)) ?_) | (refine OW.rot1 ?_; (first | refine OW.sv (SV.storeW rfl (by first | rfl | assumption) rfl (by first | exact u64s_one _ | assumption) rfl (by first | assumption | exact (u64s_length _).trans (List.length_replicate ..) | exact (u64s_length _).trans (by assumption) | rfl | (simp; done) | (simp [*]; done) | (simp [*]; rfl)) (by first | assumption | exact (u64s_length _).trans (List.length_replicate ..) | exact (u64s_length _).trans (by assumption) | rfl | (simp; done) | (simp [*]; done) | (simp [*]; rfl))) ?_ | refine OW.sv (SV.storeAs rfl (by first | rfl | assumption) rfl (by first | exact u64s_one _ | assumption) rfl (by first | assumption | exact (u64s_length _).trans (List.length_replicate ..) | exact (u64s_length _).trans (by assumption) | rfl | (simp; done) | (simp [*]; done) | (simp [*]; rfl)) (by first | assumption | (simp; done) | (simp; omega) | omega)) ?_)) | (refine OW.rot2 ?_; (first | refine OW.sv (SV.storeW rfl (by first | rfl | assumption) rfl (by first | exact u64s_one _ | assumption) rfl (by first | assumption | exact (u64s_length _).trans (List.length_replicate ..) | exact (u64s_length _).trans (by assumption) | rfl | (simp; done) | (simp [*]; done) | (simp [*]; rfl)) (by first | assumption | exact (u64s_length _).trans (List.length_replicate ..) | exact (u64s_length _).trans (by assumption) | rfl | (simp; done) | (simp [*]; done) | (simp [*]; rfl))) ?_ | refine OW.sv (SV.storeAs rfl (by first | rfl | assumption) rfl (by first | exact u64s_one _ | assumption) rfl (by first | assumption | exact (u64s_length _).trans (List.length_replicate ..) | exact (u64s_length _).trans (by assumption) | rfl | (simp; done) | (simp [*]; done) | (simp [*]; rfl)) (by first | assumption | (simp; done) | (simp; omega) | omega)) ?_)) | (refine OW.rot3 ?_; (first | refine OW.sv (SV.storeW rfl (by first | rfl | assumption) rfl (by first | exact u64s_one _ | assumption) rfl (by first | assumption | exact (u64s_length _).trans (List.length_replicate ..) | exact (u64s_length _).trans (by assumption) | rfl | (simp; done) | (simp [*]; done) | (simp [*]; rfl)) (by first | assumption | exact (u64s_length _).trans (List.length_replicate ..) | exact (u64s_length _).trans (by assumption) | rfl | (simp; done) | (simp [*]; done) | (simp [*]; rfl))) ?_ | refine OW.sv (SV.storeAs rfl (by first | rfl | assumption) rfl (by first | exact u64s_one _ | assumption) rfl (by first | assumption | exact (u64s_length _).trans (List.length_replicate ..) | exact (u64s_length _).trans (by assumption) | rfl | (simp; done) | (simp [*]; done) | (simp [*]; rfl)) (by first | assumption | (simp; done) | (simp; omega) | omega)) ?_)) | (refine OW.rot4 ?_; (first | refine OW.sv (SV.storeW rfl (by first | rfl | assumption) rfl (by first | exact u64s_one _ | assumption) rfl (by first | assumption | exact (u64s_length _).trans (List.length_replicate ..) | exact (u64s_length _).trans (by assumption) | rfl | (simp; done) | (simp [*]; done) | (simp [*]; rfl)) (by first | assumption | exact (u64s_length _).trans (List.length_replicate ..) | exact (u64s_length _).trans (by assumption) | rfl | (simp; done) | (simp [*]; done) | (simp [*]; rfl))) ?_ | refine OW.sv (SV.storeAs rfl (by first | rfl | assumption) rfl (by first | exact u64s_one _ | assumption) rfl (by first | assumption | exact (u64s_length _).trans (List.length_replicate ..) | exact (u64s_length _).trans (by assumption) | rfl | (simp; done) | (simp [*]; done) | (simp [*]; rfl)) (by first | assumption | (simp; done) | (simp; omega) | omega)) ?_)) | (refine OW.rot5 ?_; (first | refine OW.sv (SV.storeW rfl (by first | rfl | assumption) rfl (by first | exact u64s_one _ | assumption) rfl (by first | assumption | exact (u64s_length _).trans (List.length_replicate ..) | exact (u64s_length _).trans (by assumption) | rfl | (simp; done) | (simp [*]; done) | (simp [*]; rfl)) (by first | assumption | exact (u64s_length _).trans (List.length_replicate ..) | exact (u64s_length _).trans (by assumption) | rfl | (simp; done) | (simp [*]; done) | (simp [*]; rfl))) ?_ | refine OW.sv (SV.storeAs rfl (by first | rfl | assumption) rfl (by first | exact u64s_one _ | assumption) rfl (by first | assumption | exact (u64s_length _).trans (List.length_replicate ..) | exact (u64s_length _).trans (by assumption) | rfl | (simp; done) | (simp [*]; done) | (simp [*]; rfl)) (by first | assumption | (simp; done) | (simp; omega) | omega)) ?_)) | (refine OW.rot6 ?_; (first | refine OW.sv (SV.storeW rfl (by first | rfl | assumption) rfl (by first | exact u64s_one _ | assumption) rfl (by first | assumption | exact (u64s_length _).trans (List.length_replicate ..) | exact (u64s_length _).trans (by assumption) | rfl | (simp; done) | (simp [*]; done) | (simp [*]; rfl)) (by first | assumption | exact (u64s_length _).trans (List.length_replicate ..) | exact (u64s_length _).trans (by assumption) | rfl | (simp; done) | (simp [*]; done) | (simp [*]; rfl))) ?_ | refine OW.sv (SV.storeAs rfl (by first | rfl | assumption) rfl (by first | exact u64s_one _ | assumption) rfl (by first | assumption | exact (u64s_length _).trans (List.length_replicate ..) | exact (u64s_length _).trans (by assumption) | rfl | (simp; done) | (simp [*]; done) | (simp [*]; rfl)) (by first | assumption | (simp; done) | (simp; omega) | omega)) ?_)))
  refine OW.nil ?_
  (repeat (first | refine CW.seq ?_ | refine QW.then_n ?_ | refine CW.block ?_ | refine CW.ret ?_ | refine CW.skip ?_ | refine CW.exit ?_ | refine QW.then_x ?_ | refine QW.then_r ?_ | refine QW.block_n ?_ | refine QW.block_xe ?_ | refine QW.block_xn rfl ?_ | refine QW.block_r ?_))
  exact QW.retC1 rfl () trivial rfl (List.Mem.head _) rfl rfl rfl rfl ((u64s_length _).trans hb) rfl (fun _ m => m.tail.tail.tail)
end Go.Fw.Tryd
