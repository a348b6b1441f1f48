/- Part of a proof: rules that its law uses. -/
import Derived.Test.YtgonajfngmeanaaDoorShaK5
import Derived.Test.YtgonajfngmeanaaDoorShaH
import Derived.Test.YtgonajfngmeanaaDoorShaS
namespace Go.Fw.Tryd
open Go Go.Proofs
set_option maxRecDepth 100000
set_option linter.unusedVariables false
theorem rstart_does (w0 : World) (M : List Ent) : Does Tryd.prog 16 [] w0 M (τ := Unit) (fun _ => True) (fun _ => .agg (u32s startL).toArray) (fun _ => M) := by
  refine Does.enter Tryd.func16 rfl Tryd.ntmps16 rfl ?_
  (repeat (first | refine CW.seq ?_ | refine QW.then_n ?_ | refine CW.block ?_ | refine CW.ret ?_ | refine CW.skip ?_ | refine CW.exit ?_ | refine QW.then_x ?_ | refine QW.then_r ?_ | refine QW.block_n ?_ | refine QW.block_xe ?_ | refine QW.block_xn rfl ?_ | refine QW.block_r ?_))
  refine CW.region ?_
  refine OW.alloc (l := u32s (List.replicate 8 0#32)) rfl (by rw [← u32s_rep]; rfl) rfl (fun b0 => ?_)
  refine OW.nil ?_
  (repeat (first | refine CW.seq ?_ | refine QW.then_n ?_ | refine CW.block ?_ | refine CW.ret ?_ | refine CW.skip ?_ | refine CW.exit ?_ | refine QW.then_x ?_ | refine QW.then_r ?_ | refine QW.block_n ?_ | refine QW.block_xe ?_ | refine QW.block_xn rfl ?_ | refine QW.block_r ?_))
  (repeat (first | refine CW.seq ?_ | refine QW.then_n ?_ | refine CW.block ?_ | refine CW.ret ?_ | refine CW.skip ?_ | refine CW.exit ?_ | refine QW.then_x ?_ | refine QW.then_r ?_ | refine QW.block_n ?_ | refine QW.block_xe ?_ | refine QW.block_xn rfl ?_ | refine QW.block_r ?_))
  refine CW.region ?_
  refine OW.call Tryd.call40 rfl (roots2_does w0 _ 20 8 (by decide) (by decide) len2 cert2) rfl (fun q hq => ?_)
  refine OW.rv (RV.assign rfl) rfl ?_
  refine OW.nil ?_
  (repeat (first | refine CW.seq ?_ | refine QW.then_n ?_ | refine CW.block ?_ | refine CW.ret ?_ | refine CW.skip ?_ | refine CW.exit ?_ | refine QW.then_x ?_ | refine QW.then_r ?_ | refine QW.block_n ?_ | refine QW.block_xe ?_ | refine QW.block_xn rfl ?_ | refine QW.block_r ?_))
  rw [start_roots] at hq ⊢
  obtain ⟨ob, r, cap⟩ := q
  dsimp only at hq ⊢
  have hl : startL.length = 8 := rfl
  have hob : ob.isSome = true := by
    rcases hoo : ob with _ | b
    · have h1 := hq.1
      have := hq.2 hoo
      rw [List.length_append, u32s_length, hl] at h1; omega
    · rfl
  (repeat (first | refine CW.seq ?_ | refine QW.then_n ?_ | refine CW.block ?_ | refine CW.ret ?_ | refine CW.skip ?_ | refine CW.exit ?_ | refine QW.then_x ?_ | refine QW.then_r ?_ | refine QW.block_n ?_ | refine QW.block_xe ?_ | refine QW.block_xn rfl ?_ | refine QW.block_r ?_))
  refine CW.region ?_
  refine OW.alloc (l := u32s (List.replicate 8 0#32)) rfl (by rw [← u32s_rep]; rfl) rfl (fun b2 => ?_)
  refine OW.nil ?_
  (repeat (first | refine CW.seq ?_ | refine QW.then_n ?_ | refine CW.block ?_ | refine CW.ret ?_ | refine CW.skip ?_ | refine CW.exit ?_ | refine QW.then_x ?_ | refine QW.then_r ?_ | refine QW.block_n ?_ | refine QW.block_xe ?_ | refine QW.block_xn rfl ?_ | refine QW.block_r ?_))
  (repeat (first | refine CW.seq ?_ | refine QW.then_n ?_ | refine CW.block ?_ | refine CW.ret ?_ | refine CW.skip ?_ | refine CW.exit ?_ | refine QW.then_x ?_ | refine QW.then_r ?_ | refine QW.block_n ?_ | refine QW.block_xe ?_ | refine QW.block_xn rfl ?_ | refine QW.block_r ?_))
  refine CW.region ?_
  refine OW.rv (RV.assign rfl) rfl ?_
  refine OW.nil ?_
  (repeat (first | refine CW.seq ?_ | refine QW.then_n ?_ | refine CW.block ?_ | refine CW.ret ?_ | refine CW.skip ?_ | refine CW.exit ?_ | refine QW.then_x ?_ | refine QW.then_r ?_ | refine QW.block_n ?_ | refine QW.block_xe ?_ | refine QW.block_xn rfl ?_ | refine QW.block_r ?_))
  refine CW.loop (σ := Nat × List (BitVec 32)) (fun s => s.1 ≤ 8 ∧ s.2.length = 8 ∧ ∀ k, k < s.1 → s.2.getD k 0#32 = startL.getD k 0#32) (fun s => [(0, ptr (some b0) 0), (1, sl ob 0 8 cap), (2, ptr (some b2) 0), (3, .int .i64 (s.1 : Int))])
    (fun s => (some b2, blk (u32s s.2) 23) :: (ob, blk (u32s startL ++ r) 22) :: (some b0, blk (u32s z8) 23) :: M) (fun s => 8 - s.1) (0, z8) ⟨by simp, rfl, fun k hk => by omega⟩ ⟨rfl, rfl, rfl, rfl, trivial⟩ (fun _ m => m) ?_
  rintro ⟨i, hL⟩ ⟨hi, hh, he⟩
  dsimp only at hi hh he ⊢
  have hz : z8.length = 8 := rfl
  (repeat (first | refine CW.seq ?_ | refine QW.then_n ?_ | refine CW.block ?_ | refine CW.ret ?_ | refine CW.skip ?_ | refine CW.exit ?_ | refine QW.then_x ?_ | refine QW.then_r ?_ | refine QW.block_n ?_ | refine QW.block_xe ?_ | refine QW.block_xn rfl ?_ | refine QW.block_r ?_))
  refine CW.region ?_
  refine OW.rv (RV.move rfl) rfl ?_
  refine OW.rv (RV.lss rfl rfl) rfl ?_
  refine OW.nil ?_
  (repeat (first | refine CW.seq ?_ | refine QW.then_n ?_ | refine CW.block ?_ | refine CW.ret ?_ | refine CW.skip ?_ | refine CW.exit ?_ | refine QW.then_x ?_ | refine QW.then_r ?_ | refine QW.block_n ?_ | refine QW.block_xe ?_ | refine QW.block_xn rfl ?_ | refine QW.block_r ?_))
  (first | refine CW.cond_t rfl ?_ | refine CW.cond_f rfl ?_ | refine CW.cond_p rfl (fun hlt => ?_) (fun hlt => ?_) | refine CW.cond_np rfl (fun hlt => ?_) (fun hlt => ?_) | refine CW.cond rfl (fun hlt => ?_) (fun hlt => ?_))
  · have hi2 : i < 8 := by omega
    have g1 : (u32s startL ++ r)[0 + i]? = some (U32 (startL.getD i 0#32)) := by rw [Nat.zero_add, List.getElem?_append_left (by rw [u32s_length]; omega)]; exact u32s_get (by omega)
    have hl2 : 0 + i < (u32s hL).length := by rw [u32s_length]; omega
    (repeat (first | refine CW.seq ?_ | refine QW.then_n ?_ | refine CW.block ?_ | refine CW.ret ?_ | refine CW.skip ?_ | refine CW.exit ?_ | refine QW.then_x ?_ | refine QW.then_r ?_ | refine QW.block_n ?_ | refine QW.block_xe ?_ | refine QW.block_xn rfl ?_ | refine QW.block_r ?_))
    refine CW.region ?_
    refine OW.rv (RV.move rfl) rfl ?_
    refine OW.rv (RV.move rfl) rfl ?_
    refine OW.rv (RV.move rfl) rfl ?_
    (first | refine OW.rv (RV.idx_o _ rfl rfl rfl rfl rfl (by first | rfl | assumption) (by omega)) rfl ?_ | refine OW.rv (RV.idx_r _ rfl rfl rfl rfl rfl (by first | rfl | assumption) (by omega)) rfl ?_ | refine OW.rv (RV.idx_oz rfl rfl (by omega) rfl rfl (by first | rfl | assumption) (by omega)) rfl ?_ | refine OW.rv (RV.idx_rz rfl rfl (by omega) rfl rfl (by first | rfl | assumption) (by omega)) rfl ?_)
    (first | refine OW.rv (RV.load rfl (by (repeat (first | exact List.Mem.head _ | assumption | refine List.Mem.tail _ ?_)); done) (by first | rfl | assumption) rfl rfl (by first | rfl | assumption)) rfl ?_ | refine OW.rv (RV.load_at rfl rfl rfl (by (repeat (first | assumption | refine Mem.Says.cons ?_)); done)) rfl ?_)
    (first | refine OW.rv (RV.idx_a _ rfl rfl rfl rfl rfl (by omega)) rfl ?_ | refine OW.rv (RV.idx_az rfl rfl (by omega) rfl rfl (by omega)) rfl ?_)
    (first | refine OW.sv (SV.store rfl (by first | rfl | assumption) rfl rfl rfl (by first | assumption | (simp; done) | (simp; omega) | omega)) ?_ | (refine OW.rot1 ?_; refine OW.sv (SV.store rfl (by first | rfl | assumption) rfl rfl rfl (by first | assumption | (simp; done) | (simp; omega) | omega)) ?_) | (refine OW.rot2 ?_; refine OW.sv (SV.store rfl (by first | rfl | assumption) rfl rfl rfl (by first | assumption | (simp; done) | (simp; omega) | omega)) ?_) | (refine OW.rot3 ?_; refine OW.sv (SV.store rfl (by first | rfl | assumption) rfl rfl rfl (by first | assumption | (simp; done) | (simp; omega) | omega)) ?_) | (refine OW.rot4 ?_; refine OW.sv (SV.store rfl (by first | rfl | assumption) rfl rfl rfl (by first | assumption | (simp; done) | (simp; omega) | omega)) ?_))
    refine OW.nil ?_
    (repeat (first | refine CW.seq ?_ | refine QW.then_n ?_ | refine CW.block ?_ | refine CW.ret ?_ | refine CW.skip ?_ | refine CW.exit ?_ | refine QW.then_x ?_ | refine QW.then_r ?_ | refine QW.block_n ?_ | refine QW.block_xe ?_ | refine QW.block_xn rfl ?_ | refine QW.block_r ?_))
    (repeat (first | refine CW.seq ?_ | refine QW.then_n ?_ | refine CW.block ?_ | refine CW.ret ?_ | refine CW.skip ?_ | refine CW.exit ?_ | refine QW.then_x ?_ | refine QW.then_r ?_ | refine QW.block_n ?_ | refine QW.block_xe ?_ | refine QW.block_xn rfl ?_ | refine QW.block_r ?_))
    refine CW.region ?_
    refine OW.rv (RV.move rfl) rfl ?_
    refine OW.rv (RV.add rfl rfl (by omega)) rfl ?_
    refine OW.rv (RV.assign rfl) rfl ?_
    refine OW.nil ?_
    (repeat (first | refine CW.seq ?_ | refine QW.then_n ?_ | refine CW.block ?_ | refine CW.ret ?_ | refine CW.skip ?_ | refine CW.exit ?_ | refine QW.then_x ?_ | refine QW.then_r ?_ | refine QW.block_n ?_ | refine QW.block_xe ?_ | refine QW.block_xn rfl ?_ | refine QW.block_r ?_))
    refine QW.again (i + 1, hL.set i (startL.getD i 0#32)) ⟨by show i + 1 ≤ 8; omega, by simp [hh], fun k hk => ?_⟩ (by show 8 - (i + 1) < 8 - i; omega) ⟨rfl, rfl, rfl, rfl, trivial⟩ (fun _ m => ?_)
    · have hk' : k < i + 1 := hk
      show (hL.set i (startL.getD i 0#32)).getD k 0#32 = _
      simp only [List.getD, List.getElem?_set]
      by_cases hm : i = k
      · subst hm; simp [hh, hi2]
      · rw [if_neg hm]; exact he k (by omega)
    · rw [Nat.zero_add, u32s_set'] at m
      exact m
  have hi2 : i = 8 := by omega
  subst hi2
  have e : hL = startL := by
    rw [list8 hh, he 0 (by decide), he 1 (by decide), he 2 (by decide), he 3 (by decide), he 4 (by decide), he 5 (by decide), he 6 (by decide), he 7 (by decide)]
    exact (list8 hl).symm
  rw [e]
  (repeat (first | refine CW.seq ?_ | refine QW.then_n ?_ | refine CW.block ?_ | refine CW.ret ?_ | refine CW.skip ?_ | refine CW.exit ?_ | refine QW.then_x ?_ | refine QW.then_r ?_ | refine QW.block_n ?_ | refine QW.block_xe ?_ | refine QW.block_xn rfl ?_ | refine QW.block_r ?_))
  refine CW.region ?_
  (first | refine OW.rv (RV.loadW rfl (by (repeat (first | exact List.Mem.head _ | assumption | refine List.Mem.tail _ ?_)); done) (by first | rfl | assumption) rfl rfl rfl (by first | assumption | exact (u32s_length _).trans (List.length_replicate ..) | exact (u32s_length _).trans (by assumption) | rfl | (simp; done) | (simp [*]; done) | (simp [*]; rfl))) rfl ?_ | refine OW.rv (RV.loadAo rfl (by (repeat (first | exact List.Mem.head _ | assumption | refine List.Mem.tail _ ?_)); done) (by first | rfl | assumption) rfl rfl rfl (by assumption) (by first | assumption | exact (u32s_length _).trans (List.length_replicate ..) | exact (u32s_length _).trans (by assumption) | rfl | (simp; done) | (simp [*]; done) | (simp [*]; rfl))) rfl ?_ | refine OW.rv (RV.loadAs rfl rfl rfl rfl (by (repeat (first | assumption | refine Mem.Says.cons ?_)); done) (by first | assumption | exact (u32s_length _).trans (List.length_replicate ..) | exact (u32s_length _).trans (by assumption) | rfl | (simp; done) | (simp [*]; done) | (simp [*]; rfl))) rfl ?_)
  (first | (first | refine OW.sv (SV.storeW rfl (by first | rfl | assumption) rfl (by first | exact u32s_one _ | assumption) rfl (by first | assumption | exact (u32s_length _).trans (List.length_replicate ..) | exact (u32s_length _).trans (by assumption) | rfl | (simp; done) | (simp [*]; done) | (simp [*]; rfl)) (by first | assumption | exact (u32s_length _).trans (List.length_replicate ..) | exact (u32s_length _).trans (by assumption) | rfl | (simp; done) | (simp [*]; done) | (simp [*]; rfl))) ?_ | refine OW.sv (SV.storeAs rfl (by first | rfl | assumption) rfl (by first | exact u32s_one _ | assumption) rfl (by first | assumption | exact (u32s_length _).trans (List.length_replicate ..) | exact (u32s_length _).trans (by assumption) | rfl | (simp; done) | (simp [*]; done) | (simp [*]; rfl)) (by first | assumption | (simp; done) | (simp; omega) | omega)) ?_) | (refine OW.rot1 ?_; (first | refine OW.sv (SV.storeW rfl (by first | rfl | assumption) rfl (by first | exact u32s_one _ | assumption) rfl (by first | assumption | exact (u32s_length _).trans (List.length_replicate ..) | exact (u32s_length _).trans (by assumption) | rfl | (simp; done) | (simp [*]; done) | (simp [*]; rfl)) (by first | assumption | exact (u32s_length _).trans (List.length_replicate ..) | exact (u32s_length _).trans (by assumption) | rfl | (simp; done) | (simp [*]; done) | (simp [*]; rfl))) ?_ | refine OW.sv (SV.storeAs rfl (by first | rfl | assumption) rfl (by first | exact u32s_one _ | assumption) rfl (by first | assumption | exact (u32s_length _).trans (List.length_replicate ..) | exact (u32s_length _).trans (by assumption) | rfl | (simp; done) | (simp [*]; done) | (simp [*]; rfl)) (by first | assumption | (simp; done) | (simp; omega) | omega)) ?_)) | (refine OW.rot2 ?_; (first | refine OW.sv (SV.storeW rfl (by first | rfl | assumption) rfl (by first | exact u32s_one _ | assumption) rfl (by first | assumption | exact (u32s_length _).trans (List.length_replicate ..) | exact (u32s_length _).trans (by assumption) | rfl | (simp; done) | (simp [*]; done) | (simp [*]; rfl)) (by first | assumption | exact (u32s_length _).trans (List.length_replicate ..) | exact (u32s_length _).trans (by assumption) | rfl | (simp; done) | (simp [*]; done) | (simp [*]; rfl))) ?_ | refine OW.sv (SV.storeAs rfl (by first | rfl | assumption) rfl (by first | exact u32s_one _ | assumption) rfl (by first | assumption | exact (u32s_length _).trans (List.length_replicate ..) | exact (u32s_length _).trans (by assumption) | rfl | (simp; done) | (simp [*]; done) | (simp [*]; rfl)) (by first | assumption | (simp; done) | (simp; omega) | omega)) ?_)) | (refine OW.rot3 ?_; (first | refine OW.sv (SV.storeW rfl (by first | rfl | assumption) rfl (by first | exact u32s_one _ | assumption) rfl (by first | assumption | exact (u32s_length _).trans (List.length_replicate ..) | exact (u32s_length _).trans (by assumption) | rfl | (simp; done) | (simp [*]; done) | (simp [*]; rfl)) (by first | assumption | exact (u32s_length _).trans (List.length_replicate ..) | exact (u32s_length _).trans (by assumption) | rfl | (simp; done) | (simp [*]; done) | (simp [*]; rfl))) ?_ | refine OW.sv (SV.storeAs rfl (by first | rfl | assumption) rfl (by first | exact u32s_one _ | assumption) rfl (by first | assumption | exact (u32s_length _).trans (List.length_replicate ..) | exact (u32s_length _).trans (by assumption) | rfl | (simp; done) | (simp [*]; done) | (simp [*]; rfl)) (by first | assumption | (simp; done) | (simp; omega) | omega)) ?_)) | (refine OW.rot4 ?_; (first | refine OW.sv (SV.storeW rfl (by first | rfl | assumption) rfl (by first | exact u32s_one _ | assumption) rfl (by first | assumption | exact (u32s_length _).trans (List.length_replicate ..) | exact (u32s_length _).trans (by assumption) | rfl | (simp; done) | (simp [*]; done) | (simp [*]; rfl)) (by first | assumption | exact (u32s_length _).trans (List.length_replicate ..) | exact (u32s_length _).trans (by assumption) | rfl | (simp; done) | (simp [*]; done) | (simp [*]; rfl))) ?_ | refine OW.sv (SV.storeAs rfl (by first | rfl | assumption) rfl (by first | exact u32s_one _ | assumption) rfl (by first | assumption | exact (u32s_length _).trans (List.length_replicate ..) | exact (u32s_length _).trans (by assumption) | rfl | (simp; done) | (simp [*]; done) | (simp [*]; rfl)) (by first | assumption | (simp; done) | (simp; omega) | omega)) ?_)) | (refine OW.rot5 ?_; (first | refine OW.sv (SV.storeW rfl (by first | rfl | assumption) rfl (by first | exact u32s_one _ | assumption) rfl (by first | assumption | exact (u32s_length _).trans (List.length_replicate ..) | exact (u32s_length _).trans (by assumption) | rfl | (simp; done) | (simp [*]; done) | (simp [*]; rfl)) (by first | assumption | exact (u32s_length _).trans (List.length_replicate ..) | exact (u32s_length _).trans (by assumption) | rfl | (simp; done) | (simp [*]; done) | (simp [*]; rfl))) ?_ | refine OW.sv (SV.storeAs rfl (by first | rfl | assumption) rfl (by first | exact u32s_one _ | assumption) rfl (by first | assumption | exact (u32s_length _).trans (List.length_replicate ..) | exact (u32s_length _).trans (by assumption) | rfl | (simp; done) | (simp [*]; done) | (simp [*]; rfl)) (by first | assumption | (simp; done) | (simp; omega) | omega)) ?_)) | (refine OW.rot6 ?_; (first | refine OW.sv (SV.storeW rfl (by first | rfl | assumption) rfl (by first | exact u32s_one _ | assumption) rfl (by first | assumption | exact (u32s_length _).trans (List.length_replicate ..) | exact (u32s_length _).trans (by assumption) | rfl | (simp; done) | (simp [*]; done) | (simp [*]; rfl)) (by first | assumption | exact (u32s_length _).trans (List.length_replicate ..) | exact (u32s_length _).trans (by assumption) | rfl | (simp; done) | (simp [*]; done) | (simp [*]; rfl))) ?_ | refine OW.sv (SV.storeAs rfl (by first | rfl | assumption) rfl (by first | exact u32s_one _ | assumption) rfl (by first | assumption | exact (u32s_length _).trans (List.length_replicate ..) | exact (u32s_length _).trans (by assumption) | rfl | (simp; done) | (simp [*]; done) | (simp [*]; rfl)) (by first | assumption | (simp; done) | (simp; omega) | omega)) ?_)))
  refine OW.nil ?_
  (repeat (first | refine CW.seq ?_ | refine QW.then_n ?_ | refine CW.block ?_ | refine CW.ret ?_ | refine CW.skip ?_ | refine CW.exit ?_ | refine QW.then_x ?_ | refine QW.then_r ?_ | refine QW.block_n ?_ | refine QW.block_xe ?_ | refine QW.block_xn rfl ?_ | refine QW.block_r ?_))
  exact QW.retC1 rfl () trivial rfl (List.Mem.head _) rfl rfl rfl rfl ((u32s_length _).trans hl) rfl (fun _ m => m.tail.tail.tail)
theorem waybillref03_Start_does (w0 : World) (Φ : Ctx) (N : List Ent) (hΦ : ∀ w, Mem w0 w N → Φ w) (res0 : Vector (BitVec 32) 8) (hf : waybillref03_Start = some res0) : DoesG Tryd.prog 16 [] w0 [] N (fun v G => v = .agg (u32s res0.toList).toArray) := by
  cases hf
  rw [toV8_list rfl]
  exact (Does.toG (rstart_does w0 N)).mono fun v G h => h.1
theorem waybillref03_Roots_does (w0 : World) (Φ : Ctx) (N : List Ent) (hΦ : ∀ w, Mem w0 w N → Φ w) (a0 a1 : Int) (res0 : List (BitVec 32)) (ba0 : -9223372036854775808 ≤ a0 ∧ a0 ≤ 9223372036854775807) (ba1 : -9223372036854775808 ≤ a1 ∧ a1 ≤ 9223372036854775807) (hf : waybillref03_Roots a0 a1 = some res0) :
    DoesG Tryd.prog 40 [.int .i64 a0, .int .i64 a1] w0 [] N (fun v G => ∃ B : List Ent, ∃ or0 : Option Nat, ∃ kr0 : Nat, ∃ rr0 : List Value, (OwnS or0 res0.length kr0 1 (u32s res0) rr0) ∧ v = sl or0 0 res0.length kr0 ∧ G = (or0, blk ((u32s res0) ++ rr0) 22) :: B) := by
  unfold waybillref03_Roots at hf
  obtain ⟨⟨h0, h1⟩, hf⟩ := some_if hf
  cases hf
  subst h0
  subst h1
  have h := roots3_does w0 N 312 64 (by decide) (by decide) len3 cert3
  rw [const_roots] at h
  refine (Does.toJ h).mono ?_
  rintro v M' ⟨⟨ob, r, cap⟩, hq, rfl, rfl⟩
  dsimp only at hq ⊢
  have hcl : constL.length = 64 := rfl
  have hl2 : (u32s constL).length + r.length = cap := by have := hq.1; rwa [List.length_append] at this
  exact ⟨[(ob, blk (u32s constL ++ r) 22)], ⟨[], ob, cap, r, ⟨by rw [u32s_length]; omega, by rw [hq.1]; omega, (fun hn => by have := hq.2 hn; rw [u32s_length, hcl] at hl2; omega), by rw [hcl]; omega⟩, by rw [hcl], rfl⟩, rfl⟩
theorem waybillref03_rounds_does (w0 : World) (Φ : Ctx) (N : List Ent) (hΦ : ∀ w, Mem w0 w N → Φ w) (a0 : Vector (BitVec 32) 8) (A1_ : Option Addr) (c1_ : Nat) (a1 : List (BitVec 8)) (A2_ : Option Addr) (c2_ : Nat) (a2 : List (BitVec 32)) (res0 : Vector (BitVec 32) 8) (va1 : View Φ A1_ a1.length c1_ 1 (u8s a1)) (va2 : View Φ A2_ a2.length c2_ 1 (u32s a2)) (hf : waybillref03_rounds a0 a1 a2 = some res0) :
    DoesG Tryd.prog 41 [.agg (u32s a0.toList).toArray, .slice A1_ a1.length c1_, .slice A2_ a2.length c2_] w0 [] N (fun v G => v = .agg (u32s res0.toList).toArray) := by
  unfold waybillref03_rounds at hf
  obtain ⟨⟨h0, h1⟩, hf⟩ := some_if hf
  cases hf
  subst h1
  rw [toV8_list (behindL_length Vector.length_toList), h0]
  exact (Does.toG (rounds_does w0 N constL rfl A2_ c2_ (fun w m => va2.rd w (hΦ w m)) a0.toList Vector.length_toList A1_ c1_ a1 (fun w m => va1.rd w (hΦ w m)) h0)).mono fun v G h => h.1
end Go.Fw.Tryd
