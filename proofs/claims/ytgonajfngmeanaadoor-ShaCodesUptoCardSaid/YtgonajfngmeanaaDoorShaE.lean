/- Part of a proof: rules that its law uses. -/
import Derived.Test.YtgonajfngmeanaaDoorShaD
import Derived.Test.YtgonajfngmeanaaDoorRootL
namespace Go.Fw.Tryd
open Go Go.Proofs
set_option maxRecDepth 100000
set_option linter.unusedVariables false
attribute [local irreducible] vt
theorem i64s_set' (l : List Int) (i : Nat) (v : Int) : (i64s l).set i (.int .i64 v) = i64s (l.set i v) := by simp [i64s, List.map_set]
theorem getD_set_int (l : List Int) (k : Nat) (v : Int) (i : Nat) (hk : k < l.length) : (l.set k v).getD i 0 = if i = k then v else l.getD i 0 := by
  simp only [List.getD, List.getElem?_set]
  by_cases h : k = i
  · subst h; simp [hk]
  · simp [h, Ne.symm h]
theorem limbs_does (w0 : World) (M : List Ent) (v : Int) (h0 : 0 ≤ v) (h1 : v < 18446744073709551616) (h63 : v ≤ 9223372036854775807) :
    Does Tryd.prog 57 [.int .i64 v] w0 M (τ := List Int) (fun z => Norm z ∧ vt z 16 = v) (fun z => .agg (i64s z).toArray) (fun _ => M) := by
  refine Does.enter Tryd.func57 rfl Tryd.ntmps57 rfl ?_
  (repeat (first | refine CW.seq ?_ | refine QW.then_n ?_ | refine CW.block ?_ | refine CW.ret ?_ | refine CW.skip ?_ | refine CW.exit ?_ | refine QW.then_x ?_ | refine QW.then_r ?_ | refine QW.block_n ?_ | refine QW.block_xe ?_ | refine QW.block_xn rfl ?_ | refine QW.block_r ?_))
  refine CW.region ?_
  refine OW.alloc (l := i64s (List.replicate 16 0)) rfl (by rw [← i64s_rep]; rfl) rfl (fun b2 => ?_)
  refine OW.nil ?_
  (repeat (first | refine CW.seq ?_ | refine QW.then_n ?_ | refine CW.block ?_ | refine CW.ret ?_ | refine CW.skip ?_ | refine CW.exit ?_ | refine QW.then_x ?_ | refine QW.then_r ?_ | refine QW.block_n ?_ | refine QW.block_xe ?_ | refine QW.block_xn rfl ?_ | refine QW.block_r ?_))
  (repeat (first | refine CW.seq ?_ | refine QW.then_n ?_ | refine CW.block ?_ | refine CW.ret ?_ | refine CW.skip ?_ | refine CW.exit ?_ | refine QW.then_x ?_ | refine QW.then_r ?_ | refine QW.block_n ?_ | refine QW.block_xe ?_ | refine QW.block_xn rfl ?_ | refine QW.block_r ?_))
  refine CW.region ?_
  refine OW.alloc (l := i64s (List.replicate 16 0)) rfl (by rw [← i64s_rep]; rfl) rfl (fun b3 => ?_)
  refine OW.nil ?_
  (repeat (first | refine CW.seq ?_ | refine QW.then_n ?_ | refine CW.block ?_ | refine CW.ret ?_ | refine CW.skip ?_ | refine CW.exit ?_ | refine QW.then_x ?_ | refine QW.then_r ?_ | refine QW.block_n ?_ | refine QW.block_xe ?_ | refine QW.block_xn rfl ?_ | refine QW.block_r ?_))
  (repeat (first | refine CW.seq ?_ | refine QW.then_n ?_ | refine CW.block ?_ | refine CW.ret ?_ | refine CW.skip ?_ | refine CW.exit ?_ | refine QW.then_x ?_ | refine QW.then_r ?_ | refine QW.block_n ?_ | refine QW.block_xe ?_ | refine QW.block_xn rfl ?_ | refine QW.block_r ?_))
  refine CW.region ?_
  refine OW.rv (RV.assign rfl) rfl ?_
  refine OW.nil ?_
  (repeat (first | refine CW.seq ?_ | refine QW.then_n ?_ | refine CW.block ?_ | refine CW.ret ?_ | refine CW.skip ?_ | refine CW.exit ?_ | refine QW.then_x ?_ | refine QW.then_r ?_ | refine QW.block_n ?_ | refine QW.block_xe ?_ | refine QW.block_xn rfl ?_ | refine QW.block_r ?_))
  refine CW.loop (σ := Nat × List Int × Int) (fun s => s.1 ≤ 4 ∧ Norm s.2.1 ∧ (∀ k, s.1 ≤ k → s.2.1.getD k 0 = 0) ∧ 0 ≤ s.2.2 ∧ s.2.2 ≤ v ∧ vt s.2.1 16 + s.2.2 * 65536 ^ s.1 = v) (fun s => [(0, .int .i64 s.2.2), (2, ptr (some b2) 0), (3, ptr (some b3) 0), (4, .int .i64 (s.1 : Int))])
    (fun s => (some b3, blk (i64s s.2.1) 90) :: (some b2, blk (i64s zL) 90) :: M) (fun s => 4 - s.1) (0, zL, v) ⟨by simp, zL_norm, fun k _ => zL_getD k, h0, Int.le_refl v, by rw [zL_vt]; simp⟩ ⟨rfl, rfl, rfl, rfl, trivial⟩ (fun _ m => m) ?_
  rintro ⟨i, z, u⟩ ⟨hi, hn, hz, hu0, hu1, hv⟩
  dsimp only at hi hn hz hu0 hu1 hv ⊢
  have hzl : z.length = 16 := hn.1
  have hll : zL.length = 16 := List.length_replicate ..
  (repeat (first | refine CW.seq ?_ | refine QW.then_n ?_ | refine CW.block ?_ | refine CW.ret ?_ | refine CW.skip ?_ | refine CW.exit ?_ | refine QW.then_x ?_ | refine QW.then_r ?_ | refine QW.block_n ?_ | refine QW.block_xe ?_ | refine QW.block_xn rfl ?_ | refine QW.block_r ?_))
  refine CW.region ?_
  refine OW.rv (RV.move rfl) rfl ?_
  refine OW.rv (RV.lss rfl rfl) rfl ?_
  refine OW.nil ?_
  (repeat (first | refine CW.seq ?_ | refine QW.then_n ?_ | refine CW.block ?_ | refine CW.ret ?_ | refine CW.skip ?_ | refine CW.exit ?_ | refine QW.then_x ?_ | refine QW.then_r ?_ | refine QW.block_n ?_ | refine QW.block_xe ?_ | refine QW.block_xn rfl ?_ | refine QW.block_r ?_))
  (first | refine CW.cond_t rfl ?_ | refine CW.cond_f rfl ?_ | refine CW.cond_p rfl (fun hlt => ?_) (fun hlt => ?_) | refine CW.cond_np rfl (fun hlt => ?_) (fun hlt => ?_) | refine CW.cond rfl (fun hlt => ?_) (fun hlt => ?_))
  · have hi2 : i < 4 := by omega
    have hl2 : 0 + i < (i64s z).length := by rw [i64s_length]; omega
    (repeat (first | refine CW.seq ?_ | refine QW.then_n ?_ | refine CW.block ?_ | refine CW.ret ?_ | refine CW.skip ?_ | refine CW.exit ?_ | refine QW.then_x ?_ | refine QW.then_r ?_ | refine QW.block_n ?_ | refine QW.block_xe ?_ | refine QW.block_xn rfl ?_ | refine QW.block_r ?_))
    refine CW.region ?_
    refine OW.rv (RV.move rfl) rfl ?_
    refine OW.rv (RV.move rfl) rfl ?_
    (first | refine OW.rv (RV.rem rfl rfl (by omega) (by omega)) rfl ?_ | refine OW.rv (RV.trem rfl rfl (by omega)) rfl ?_)
    (first | refine OW.rv (RV.idx_a _ rfl rfl rfl rfl rfl (by omega)) rfl ?_ | refine OW.rv (RV.idx_az rfl rfl (by omega) rfl rfl (by omega)) rfl ?_)
    (first | refine OW.sv (SV.store rfl (by first | rfl | assumption) rfl rfl rfl (by first | assumption | (simp; done) | (simp; omega) | omega)) ?_ | (refine OW.rot1 ?_; refine OW.sv (SV.store rfl (by first | rfl | assumption) rfl rfl rfl (by first | assumption | (simp; done) | (simp; omega) | omega)) ?_) | (refine OW.rot2 ?_; refine OW.sv (SV.store rfl (by first | rfl | assumption) rfl rfl rfl (by first | assumption | (simp; done) | (simp; omega) | omega)) ?_) | (refine OW.rot3 ?_; refine OW.sv (SV.store rfl (by first | rfl | assumption) rfl rfl rfl (by first | assumption | (simp; done) | (simp; omega) | omega)) ?_) | (refine OW.rot4 ?_; refine OW.sv (SV.store rfl (by first | rfl | assumption) rfl rfl rfl (by first | assumption | (simp; done) | (simp; omega) | omega)) ?_))
    refine OW.nil ?_
    (repeat (first | refine CW.seq ?_ | refine QW.then_n ?_ | refine CW.block ?_ | refine CW.ret ?_ | refine CW.skip ?_ | refine CW.exit ?_ | refine QW.then_x ?_ | refine QW.then_r ?_ | refine QW.block_n ?_ | refine QW.block_xe ?_ | refine QW.block_xn rfl ?_ | refine QW.block_r ?_))
    (repeat (first | refine CW.seq ?_ | refine QW.then_n ?_ | refine CW.block ?_ | refine CW.ret ?_ | refine CW.skip ?_ | refine CW.exit ?_ | refine QW.then_x ?_ | refine QW.then_r ?_ | refine QW.block_n ?_ | refine QW.block_xe ?_ | refine QW.block_xn rfl ?_ | refine QW.block_r ?_))
    refine CW.region ?_
    refine OW.rv (RV.move rfl) rfl ?_
    refine OW.rv (RV.quo rfl rfl (by omega) (by omega) (by omega)) rfl ?_
    refine OW.rv (RV.assign rfl) rfl ?_
    refine OW.nil ?_
    (repeat (first | refine CW.seq ?_ | refine QW.then_n ?_ | refine CW.block ?_ | refine CW.ret ?_ | refine CW.skip ?_ | refine CW.exit ?_ | refine QW.then_x ?_ | refine QW.then_r ?_ | refine QW.block_n ?_ | refine QW.block_xe ?_ | refine QW.block_xn rfl ?_ | refine QW.block_r ?_))
    (repeat (first | refine CW.seq ?_ | refine QW.then_n ?_ | refine CW.block ?_ | refine CW.ret ?_ | refine CW.skip ?_ | refine CW.exit ?_ | refine QW.then_x ?_ | refine QW.then_r ?_ | refine QW.block_n ?_ | refine QW.block_xe ?_ | refine QW.block_xn rfl ?_ | refine QW.block_r ?_))
    refine CW.region ?_
    refine OW.rv (RV.move rfl) rfl ?_
    refine OW.rv (RV.add rfl rfl (by omega)) rfl ?_
    refine OW.rv (RV.assign rfl) rfl ?_
    refine OW.nil ?_
    (repeat (first | refine CW.seq ?_ | refine QW.then_n ?_ | refine CW.block ?_ | refine CW.ret ?_ | refine CW.skip ?_ | refine CW.exit ?_ | refine QW.then_x ?_ | refine QW.then_r ?_ | refine QW.block_n ?_ | refine QW.block_xe ?_ | refine QW.block_xn rfl ?_ | refine QW.block_r ?_))
    refine QW.again (i + 1, z.set i (u % 65536), u / 65536) ⟨by show i + 1 ≤ 4; omega, hn.set ⟨by omega, by omega⟩, fun k hk => ?_, by show 0 ≤ u / 65536; omega, by show u / 65536 ≤ v; omega, ?_⟩ (by show 4 - (i + 1) < 4 - i; omega) ⟨rfl, rfl, rfl, rfl, trivial⟩ (fun _ m => ?_)
    · have hk' : i + 1 ≤ k := hk
      show (z.set i (u % 65536)).getD k 0 = 0
      rw [getD_set_int _ _ _ _ (by omega), if_neg (by omega)]; exact hz k (by omega)
    · show vt (z.set i (u % 65536)) 16 + u / 65536 * 65536 ^ (i + 1) = v
      rw [vt_set (by omega), if_pos (by omega), hz i (Nat.le_refl _), Int.pow_succ]
      have e : u = u / 65536 * 65536 + u % 65536 := by omega
      have e2 : u * 65536 ^ i = (u / 65536 * 65536 + u % 65536) * 65536 ^ i := by rw [← e]
      rw [e2] at hv
      generalize (65536 : Int) ^ i = p at hv ⊢
      grind
    · rw [Nat.zero_add, i64s_set'] at m
      exact m
  · have hi4 : i = 4 := by omega
    subst hi4
    have hb := (vt_bound hn.2 16).1
    have hu : u = 0 := by omega
    subst hu
    (repeat (first | refine CW.seq ?_ | refine QW.then_n ?_ | refine CW.block ?_ | refine CW.ret ?_ | refine CW.skip ?_ | refine CW.exit ?_ | refine QW.then_x ?_ | refine QW.then_r ?_ | refine QW.block_n ?_ | refine QW.block_xe ?_ | refine QW.block_xn rfl ?_ | refine QW.block_r ?_))
    refine CW.region ?_
    (first | refine OW.rv (RV.loadW rfl (by (repeat (first | exact List.Mem.head _ | assumption | refine List.Mem.tail _ ?_)); done) (by first | rfl | assumption) rfl rfl rfl (by first | assumption | exact (i64s_length _).trans (List.length_replicate ..) | exact (i64s_length _).trans (by assumption) | rfl | (simp; done) | (simp [*]; done) | (simp [*]; rfl))) rfl ?_ | refine OW.rv (RV.loadAo rfl (by (repeat (first | exact List.Mem.head _ | assumption | refine List.Mem.tail _ ?_)); done) (by first | rfl | assumption) rfl rfl rfl (by assumption) (by first | assumption | exact (i64s_length _).trans (List.length_replicate ..) | exact (i64s_length _).trans (by assumption) | rfl | (simp; done) | (simp [*]; done) | (simp [*]; rfl))) rfl ?_ | refine OW.rv (RV.loadAs rfl rfl rfl rfl (by (repeat (first | assumption | refine Mem.Says.cons ?_)); done) (by first | assumption | exact (i64s_length _).trans (List.length_replicate ..) | exact (i64s_length _).trans (by assumption) | rfl | (simp; done) | (simp [*]; done) | (simp [*]; rfl))) rfl ?_)
    (first | (first | refine OW.sv (SV.storeW rfl (by first | rfl | assumption) rfl (by first | exact i64s_one _ | assumption) rfl (by first | assumption | exact (i64s_length _).trans (List.length_replicate ..) | exact (i64s_length _).trans (by assumption) | rfl | (simp; done) | (simp [*]; done) | (simp [*]; rfl)) (by first | assumption | exact (i64s_length _).trans (List.length_replicate ..) | exact (i64s_length _).trans (by assumption) | rfl | (simp; done) | (simp [*]; done) | (simp [*]; rfl))) ?_ | refine OW.sv (SV.storeAs rfl (by first | rfl | assumption) rfl (by first | exact i64s_one _ | assumption) rfl (by first | assumption | exact (i64s_length _).trans (List.length_replicate ..) | exact (i64s_length _).trans (by assumption) | rfl | (simp; done) | (simp [*]; done) | (simp [*]; rfl)) (by first | assumption | (simp; done) | (simp; omega) | omega)) ?_) | (refine OW.rot1 ?_; (first | refine OW.sv (SV.storeW rfl (by first | rfl | assumption) rfl (by first | exact i64s_one _ | assumption) rfl (by first | assumption | exact (i64s_length _).trans (List.length_replicate ..) | exact (i64s_length _).trans (by assumption) | rfl | (simp; done) | (simp [*]; done) | (simp [*]; rfl)) (by first | assumption | exact (i64s_length _).trans (List.length_replicate ..) | exact (i64s_length _).trans (by assumption) | rfl | (simp; done) | (simp [*]; done) | (simp [*]; rfl))) ?_ | refine OW.sv (SV.storeAs rfl (by first | rfl | assumption) rfl (by first | exact i64s_one _ | assumption) rfl (by first | assumption | exact (i64s_length _).trans (List.length_replicate ..) | exact (i64s_length _).trans (by assumption) | rfl | (simp; done) | (simp [*]; done) | (simp [*]; rfl)) (by first | assumption | (simp; done) | (simp; omega) | omega)) ?_)) | (refine OW.rot2 ?_; (first | refine OW.sv (SV.storeW rfl (by first | rfl | assumption) rfl (by first | exact i64s_one _ | assumption) rfl (by first | assumption | exact (i64s_length _).trans (List.length_replicate ..) | exact (i64s_length _).trans (by assumption) | rfl | (simp; done) | (simp [*]; done) | (simp [*]; rfl)) (by first | assumption | exact (i64s_length _).trans (List.length_replicate ..) | exact (i64s_length _).trans (by assumption) | rfl | (simp; done) | (simp [*]; done) | (simp [*]; rfl))) ?_ | refine OW.sv (SV.storeAs rfl (by first | rfl | assumption) rfl (by first | exact i64s_one _ | assumption) rfl (by first | assumption | exact (i64s_length _).trans (List.length_replicate ..) | exact (i64s_length _).trans (by assumption) | rfl | (simp; done) | (simp [*]; done) | (simp [*]; rfl)) (by first | assumption | (simp; done) | (simp; omega) | omega)) ?_)) | (refine OW.rot3 ?_; (first | refine OW.sv (SV.storeW rfl (by first | rfl | assumption) rfl (by first | exact i64s_one _ | assumption) rfl (by first | assumption | exact (i64s_length _).trans (List.length_replicate ..) | exact (i64s_length _).trans (by assumption) | rfl | (simp; done) | (simp [*]; done) | (simp [*]; rfl)) (by first | assumption | exact (i64s_length _).trans (List.length_replicate ..) | exact (i64s_length _).trans (by assumption) | rfl | (simp; done) | (simp [*]; done) | (simp [*]; rfl))) ?_ | refine OW.sv (SV.storeAs rfl (by first | rfl | assumption) rfl (by first | exact i64s_one _ | assumption) rfl (by first | assumption | exact (i64s_length _).trans (List.length_replicate ..) | exact (i64s_length _).trans (by assumption) | rfl | (simp; done) | (simp [*]; done) | (simp [*]; rfl)) (by first | assumption | (simp; done) | (simp; omega) | omega)) ?_)) | (refine OW.rot4 ?_; (first | refine OW.sv (SV.storeW rfl (by first | rfl | assumption) rfl (by first | exact i64s_one _ | assumption) rfl (by first | assumption | exact (i64s_length _).trans (List.length_replicate ..) | exact (i64s_length _).trans (by assumption) | rfl | (simp; done) | (simp [*]; done) | (simp [*]; rfl)) (by first | assumption | exact (i64s_length _).trans (List.length_replicate ..) | exact (i64s_length _).trans (by assumption) | rfl | (simp; done) | (simp [*]; done) | (simp [*]; rfl))) ?_ | refine OW.sv (SV.storeAs rfl (by first | rfl | assumption) rfl (by first | exact i64s_one _ | assumption) rfl (by first | assumption | exact (i64s_length _).trans (List.length_replicate ..) | exact (i64s_length _).trans (by assumption) | rfl | (simp; done) | (simp [*]; done) | (simp [*]; rfl)) (by first | assumption | (simp; done) | (simp; omega) | omega)) ?_)) | (refine OW.rot5 ?_; (first | refine OW.sv (SV.storeW rfl (by first | rfl | assumption) rfl (by first | exact i64s_one _ | assumption) rfl (by first | assumption | exact (i64s_length _).trans (List.length_replicate ..) | exact (i64s_length _).trans (by assumption) | rfl | (simp; done) | (simp [*]; done) | (simp [*]; rfl)) (by first | assumption | exact (i64s_length _).trans (List.length_replicate ..) | exact (i64s_length _).trans (by assumption) | rfl | (simp; done) | (simp [*]; done) | (simp [*]; rfl))) ?_ | refine OW.sv (SV.storeAs rfl (by first | rfl | assumption) rfl (by first | exact i64s_one _ | assumption) rfl (by first | assumption | exact (i64s_length _).trans (List.length_replicate ..) | exact (i64s_length _).trans (by assumption) | rfl | (simp; done) | (simp [*]; done) | (simp [*]; rfl)) (by first | assumption | (simp; done) | (simp; omega) | omega)) ?_)) | (refine OW.rot6 ?_; (first | refine OW.sv (SV.storeW rfl (by first | rfl | assumption) rfl (by first | exact i64s_one _ | assumption) rfl (by first | assumption | exact (i64s_length _).trans (List.length_replicate ..) | exact (i64s_length _).trans (by assumption) | rfl | (simp; done) | (simp [*]; done) | (simp [*]; rfl)) (by first | assumption | exact (i64s_length _).trans (List.length_replicate ..) | exact (i64s_length _).trans (by assumption) | rfl | (simp; done) | (simp [*]; done) | (simp [*]; rfl))) ?_ | refine OW.sv (SV.storeAs rfl (by first | rfl | assumption) rfl (by first | exact i64s_one _ | assumption) rfl (by first | assumption | exact (i64s_length _).trans (List.length_replicate ..) | exact (i64s_length _).trans (by assumption) | rfl | (simp; done) | (simp [*]; done) | (simp [*]; rfl)) (by first | assumption | (simp; done) | (simp; omega) | omega)) ?_)))
    refine OW.nil ?_
    (repeat (first | refine CW.seq ?_ | refine QW.then_n ?_ | refine CW.block ?_ | refine CW.ret ?_ | refine CW.skip ?_ | refine CW.exit ?_ | refine QW.then_x ?_ | refine QW.then_r ?_ | refine QW.block_n ?_ | refine QW.block_xe ?_ | refine QW.block_xn rfl ?_ | refine QW.block_r ?_))
    exact QW.retC1 rfl z ⟨hn, by omega⟩ rfl (List.Mem.head _) rfl rfl rfl rfl ((i64s_length _).trans hzl) rfl (fun _ m => m.tail.tail)
theorem product_does (w0 : World) (M : List Ent) (x y : List Int) (hx : Norm x) (hy : Norm y) (hx8 : ∀ k, 8 ≤ k → x.getD k 0 = 0) (hy8 : ∀ k, 8 ≤ k → y.getD k 0 = 0) :
    Does Tryd.prog 58 [.agg (i64s x).toArray, .agg (i64s y).toArray] w0 M (τ := List Int) (fun z => Norm z ∧ vt z 16 = vt x 16 * vt y 16) (fun z => .agg (i64s z).toArray) (fun _ => M) := by
  have hxl : x.length = 16 := hx.1
  have hyl : y.length = 16 := hy.1
  have hll : zL.length = 16 := List.length_replicate ..
  have ex : vt x 16 = vt x 8 := vt_zero (by decide) (fun k h _ => hx8 k h)
  have ey : vt y 16 = vt y 8 := vt_zero (by decide) (fun k h _ => hy8 k h)
  rw [ex, ey]
  refine Does.enter Tryd.func58 rfl Tryd.ntmps58 rfl ?_
  (repeat (first | refine CW.seq ?_ | refine QW.then_n ?_ | refine CW.block ?_ | refine CW.ret ?_ | refine CW.skip ?_ | refine CW.exit ?_ | refine QW.then_x ?_ | refine QW.then_r ?_ | refine QW.block_n ?_ | refine QW.block_xe ?_ | refine QW.block_xn rfl ?_ | refine QW.block_r ?_))
  refine CW.region ?_
  refine OW.boxA rfl rfl (fun b2 => ?_)
  refine OW.boxA rfl rfl (fun b3 => ?_)
  refine OW.alloc (l := i64s (List.replicate 16 0)) rfl (by rw [← i64s_rep]; rfl) rfl (fun b4 => ?_)
  refine OW.nil ?_
  (repeat (first | refine CW.seq ?_ | refine QW.then_n ?_ | refine CW.block ?_ | refine CW.ret ?_ | refine CW.skip ?_ | refine CW.exit ?_ | refine QW.then_x ?_ | refine QW.then_r ?_ | refine QW.block_n ?_ | refine QW.block_xe ?_ | refine QW.block_xn rfl ?_ | refine QW.block_r ?_))
  (repeat (first | refine CW.seq ?_ | refine QW.then_n ?_ | refine CW.block ?_ | refine CW.ret ?_ | refine CW.skip ?_ | refine CW.exit ?_ | refine QW.then_x ?_ | refine QW.then_r ?_ | refine QW.block_n ?_ | refine QW.block_xe ?_ | refine QW.block_xn rfl ?_ | refine QW.block_r ?_))
  refine CW.region ?_
  refine OW.alloc (l := i64s (List.replicate 16 0)) rfl (by rw [← i64s_rep]; rfl) rfl (fun b5 => ?_)
  refine OW.nil ?_
  (repeat (first | refine CW.seq ?_ | refine QW.then_n ?_ | refine CW.block ?_ | refine CW.ret ?_ | refine CW.skip ?_ | refine CW.exit ?_ | refine QW.then_x ?_ | refine QW.then_r ?_ | refine QW.block_n ?_ | refine QW.block_xe ?_ | refine QW.block_xn rfl ?_ | refine QW.block_r ?_))
  (repeat (first | refine CW.seq ?_ | refine QW.then_n ?_ | refine CW.block ?_ | refine CW.ret ?_ | refine CW.skip ?_ | refine CW.exit ?_ | refine QW.then_x ?_ | refine QW.then_r ?_ | refine QW.block_n ?_ | refine QW.block_xe ?_ | refine QW.block_xn rfl ?_ | refine QW.block_r ?_))
  refine CW.region ?_
  refine OW.rv (RV.assign rfl) rfl ?_
  refine OW.nil ?_
  (repeat (first | refine CW.seq ?_ | refine QW.then_n ?_ | refine CW.block ?_ | refine CW.ret ?_ | refine CW.skip ?_ | refine CW.exit ?_ | refine QW.then_x ?_ | refine QW.then_r ?_ | refine QW.block_n ?_ | refine QW.block_xe ?_ | refine QW.block_xn rfl ?_ | refine QW.block_r ?_))
  refine CW.loop (σ := Nat × List Int) (fun s => s.1 ≤ 8 ∧ Norm s.2 ∧ (∀ k, s.1 + 8 ≤ k → s.2.getD k 0 = 0) ∧ vt s.2 16 = vt x s.1 * vt y 8) (fun s => [(2, ptr (some b2) 0), (3, ptr (some b3) 0), (4, ptr (some b4) 0), (5, ptr (some b5) 0), (6, .int .i64 (s.1 : Int))])
    (fun s => (some b5, blk (i64s s.2) 90) :: (some b4, blk (i64s zL) 90) :: (some b3, blk (i64s y) 90) :: (some b2, blk (i64s x) 90) :: M) (fun s => 8 - s.1) (0, zL) ⟨by simp, zL_norm, fun k _ => zL_getD k, by rw [zL_vt, vt_0]; simp⟩ ⟨rfl, rfl, rfl, rfl, rfl, trivial⟩ (fun _ m => m) ?_
  rintro ⟨i, z⟩ ⟨hi, hn, hz, hv⟩
  dsimp only at hi hn hz hv ⊢
  (repeat (first | refine CW.seq ?_ | refine QW.then_n ?_ | refine CW.block ?_ | refine CW.ret ?_ | refine CW.skip ?_ | refine CW.exit ?_ | refine QW.then_x ?_ | refine QW.then_r ?_ | refine QW.block_n ?_ | refine QW.block_xe ?_ | refine QW.block_xn rfl ?_ | refine QW.block_r ?_))
  refine CW.region ?_
  refine OW.rv (RV.move rfl) rfl ?_
  refine OW.rv (RV.lss rfl rfl) rfl ?_
  refine OW.nil ?_
  (repeat (first | refine CW.seq ?_ | refine QW.then_n ?_ | refine CW.block ?_ | refine CW.ret ?_ | refine CW.skip ?_ | refine CW.exit ?_ | refine QW.then_x ?_ | refine QW.then_r ?_ | refine QW.block_n ?_ | refine QW.block_xe ?_ | refine QW.block_xn rfl ?_ | refine QW.block_r ?_))
  (first | refine CW.cond_t rfl ?_ | refine CW.cond_f rfl ?_ | refine CW.cond_p rfl (fun hlt => ?_) (fun hlt => ?_) | refine CW.cond_np rfl (fun hlt => ?_) (fun hlt => ?_) | refine CW.cond rfl (fun hlt => ?_) (fun hlt => ?_))
  · have hi2 : i < 8 := by omega
    (repeat (first | refine CW.seq ?_ | refine QW.then_n ?_ | refine CW.block ?_ | refine CW.ret ?_ | refine CW.skip ?_ | refine CW.exit ?_ | refine QW.then_x ?_ | refine QW.then_r ?_ | refine QW.block_n ?_ | refine QW.block_xe ?_ | refine QW.block_xn rfl ?_ | refine QW.block_r ?_))
    refine CW.region ?_
    refine OW.rv (RV.assign rfl) rfl ?_
    refine OW.nil ?_
    (repeat (first | refine CW.seq ?_ | refine QW.then_n ?_ | refine CW.block ?_ | refine CW.ret ?_ | refine CW.skip ?_ | refine CW.exit ?_ | refine QW.then_x ?_ | refine QW.then_r ?_ | refine QW.block_n ?_ | refine QW.block_xe ?_ | refine QW.block_xn rfl ?_ | refine QW.block_r ?_))
    (repeat (first | refine CW.seq ?_ | refine QW.then_n ?_ | refine CW.block ?_ | refine CW.ret ?_ | refine CW.skip ?_ | refine CW.exit ?_ | refine QW.then_x ?_ | refine QW.then_r ?_ | refine QW.block_n ?_ | refine QW.block_xe ?_ | refine QW.block_xn rfl ?_ | refine QW.block_r ?_))
    refine CW.region ?_
    refine OW.rv (RV.assign rfl) rfl ?_
    refine OW.nil ?_
    (repeat (first | refine CW.seq ?_ | refine QW.then_n ?_ | refine CW.block ?_ | refine CW.ret ?_ | refine CW.skip ?_ | refine CW.exit ?_ | refine QW.then_x ?_ | refine QW.then_r ?_ | refine QW.block_n ?_ | refine QW.block_xe ?_ | refine QW.block_xn rfl ?_ | refine QW.block_r ?_))
    refine CW.loop (σ := Nat × List Int × Int) (fun s => s.1 ≤ 8 ∧ Norm s.2.1 ∧ (∀ k, i + 8 ≤ k → s.2.1.getD k 0 = 0) ∧ 0 ≤ s.2.2 ∧ s.2.2 < 65536 ∧ vt s.2.1 16 + s.2.2 * 65536 ^ (i + s.1) = vt x i * vt y 8 + x.getD i 0 * 65536 ^ i * vt y s.1) (fun s => [(2, ptr (some b2) 0), (3, ptr (some b3) 0), (4, ptr (some b4) 0), (5, ptr (some b5) 0), (6, .int .i64 (i : Int)), (7, .int .i64 s.2.2), (8, .int .i64 (s.1 : Int))])
      (fun s => (some b5, blk (i64s s.2.1) 90) :: (some b4, blk (i64s zL) 90) :: (some b3, blk (i64s y) 90) :: (some b2, blk (i64s x) 90) :: M) (fun s => 8 - s.1) (0, z, 0) ⟨by simp, hn, hz, by simp, by simp, by simp [vt_0, hv]⟩ ⟨rfl, rfl, rfl, rfl, rfl, rfl, rfl, trivial⟩ (fun _ m => m) ?_
    clear hn hz hv z
    rintro ⟨j, z, c⟩ ⟨hj, hn, hz, hc0, hc1, hv⟩
    dsimp only at hj hn hz hc0 hc1 hv ⊢
    have hzl : z.length = 16 := hn.1
    (repeat (first | refine CW.seq ?_ | refine QW.then_n ?_ | refine CW.block ?_ | refine CW.ret ?_ | refine CW.skip ?_ | refine CW.exit ?_ | refine QW.then_x ?_ | refine QW.then_r ?_ | refine QW.block_n ?_ | refine QW.block_xe ?_ | refine QW.block_xn rfl ?_ | refine QW.block_r ?_))
    refine CW.region ?_
    refine OW.rv (RV.move rfl) rfl ?_
    refine OW.rv (RV.lss rfl rfl) rfl ?_
    refine OW.nil ?_
    (repeat (first | refine CW.seq ?_ | refine QW.then_n ?_ | refine CW.block ?_ | refine CW.ret ?_ | refine CW.skip ?_ | refine CW.exit ?_ | refine QW.then_x ?_ | refine QW.then_r ?_ | refine QW.block_n ?_ | refine QW.block_xe ?_ | refine QW.block_xn rfl ?_ | refine QW.block_r ?_))
    (first | refine CW.cond_t rfl ?_ | refine CW.cond_f rfl ?_ | refine CW.cond_p rfl (fun hjlt => ?_) (fun hjlt => ?_) | refine CW.cond_np rfl (fun hjlt => ?_) (fun hjlt => ?_) | refine CW.cond rfl (fun hjlt => ?_) (fun hjlt => ?_))
    · have hj2 : j < 8 := by omega
      have et : 0 + ((i : Int) + (j : Int)).toNat = i + j := by omega
      have gz : (i64s z)[0 + ((i : Int) + (j : Int)).toNat]? = some (.int .i64 (z.getD (i + j) 0)) := by rw [et]; exact i64s_get (by omega)
      have gx : (i64s x)[0 + i]? = some (.int .i64 (x.getD i 0)) := by rw [Nat.zero_add]; exact i64s_get (by omega)
      have gy : (i64s y)[0 + j]? = some (.int .i64 (y.getD j 0)) := by rw [Nat.zero_add]; exact i64s_get (by omega)
      obtain ⟨z1, z2⟩ := hn.2 (i + j)
      obtain ⟨x1, x2⟩ := hx.2 i
      obtain ⟨y1, y2⟩ := hy.2 j
      have m1 : 0 ≤ x.getD i 0 * y.getD j 0 := Int.mul_nonneg x1 y1
      have m2 : x.getD i 0 * y.getD j 0 ≤ 65535 * 65535 := Int.mul_le_mul (by omega) (by omega) y1 (by decide)
      have hl2 : 0 + ((i : Int) + (j : Int)).toNat < (i64s z).length := by rw [et, i64s_length]; omega
      (repeat (first | refine CW.seq ?_ | refine QW.then_n ?_ | refine CW.block ?_ | refine CW.ret ?_ | refine CW.skip ?_ | refine CW.exit ?_ | refine QW.then_x ?_ | refine QW.then_r ?_ | refine QW.block_n ?_ | refine QW.block_xe ?_ | refine QW.block_xn rfl ?_ | refine QW.block_r ?_))
      refine CW.draws mixed (by kernel_rfl) ?_
      refine DW.rv (RV.move rfl) rfl ?_
      refine DW.rv (RV.move rfl) rfl ?_
      refine DW.rv (RV.add rfl rfl (by omega)) rfl ?_
      (first | refine DW.rv (RV.idx_a _ rfl rfl rfl rfl rfl (by omega)) rfl ?_ | refine DW.rv (RV.idx_az rfl rfl (by omega) rfl rfl (by omega)) rfl ?_)
      (first | refine DW.rv (RV.load rfl (by (repeat (first | exact List.Mem.head _ | assumption | refine List.Mem.tail _ ?_)); done) (by first | rfl | assumption) rfl rfl (by first | rfl | assumption)) rfl ?_ | refine DW.rv (RV.load_at rfl rfl rfl (by (repeat (first | assumption | refine Mem.Says.cons ?_)); done)) rfl ?_)
      refine DW.rv (RV.move rfl) rfl ?_
      (first | refine DW.rv (RV.idx_a _ rfl rfl rfl rfl rfl (by omega)) rfl ?_ | refine DW.rv (RV.idx_az rfl rfl (by omega) rfl rfl (by omega)) rfl ?_)
      (first | refine DW.rv (RV.load rfl (by (repeat (first | exact List.Mem.head _ | assumption | refine List.Mem.tail _ ?_)); done) (by first | rfl | assumption) rfl rfl (by first | rfl | assumption)) rfl ?_ | refine DW.rv (RV.load_at rfl rfl rfl (by (repeat (first | assumption | refine Mem.Says.cons ?_)); done)) rfl ?_)
      refine DW.rv (RV.move rfl) rfl ?_
      (first | refine DW.rv (RV.idx_a _ rfl rfl rfl rfl rfl (by omega)) rfl ?_ | refine DW.rv (RV.idx_az rfl rfl (by omega) rfl rfl (by omega)) rfl ?_)
      (first | refine DW.rv (RV.load rfl (by (repeat (first | exact List.Mem.head _ | assumption | refine List.Mem.tail _ ?_)); done) (by first | rfl | assumption) rfl rfl (by first | rfl | assumption)) rfl ?_ | refine DW.rv (RV.load_at rfl rfl rfl (by (repeat (first | assumption | refine Mem.Says.cons ?_)); done)) rfl ?_)
      refine DW.rv (RV.mul rfl rfl (by omega)) rfl ?_
      refine DW.rv (RV.add rfl rfl (by omega)) rfl ?_
      refine DW.rv (RV.move rfl) rfl ?_
      refine DW.rv (RV.add rfl rfl (by omega)) rfl ?_
      refine DW.rv (RV.assign rfl) rfl ?_
      refine DW.nil ?_
      (repeat (first | refine CW.seq ?_ | refine QW.then_n ?_ | refine CW.block ?_ | refine CW.ret ?_ | refine CW.skip ?_ | refine CW.exit ?_ | refine QW.then_x ?_ | refine QW.then_r ?_ | refine QW.block_n ?_ | refine QW.block_xe ?_ | refine QW.block_xn rfl ?_ | refine QW.block_r ?_))
      (repeat (first | refine CW.seq ?_ | refine QW.then_n ?_ | refine CW.block ?_ | refine CW.ret ?_ | refine CW.skip ?_ | refine CW.exit ?_ | refine QW.then_x ?_ | refine QW.then_r ?_ | refine QW.block_n ?_ | refine QW.block_xe ?_ | refine QW.block_xn rfl ?_ | refine QW.block_r ?_))
      refine CW.region ?_
      refine OW.rv (RV.move rfl) rfl ?_
      refine OW.rv (RV.move rfl) rfl ?_
      refine OW.rv (RV.add rfl rfl (by omega)) rfl ?_
      refine OW.rv (RV.move rfl) rfl ?_
      (first | refine OW.rv (RV.rem rfl rfl (by omega) (by omega)) rfl ?_ | refine OW.rv (RV.trem rfl rfl (by omega)) rfl ?_)
      (first | refine OW.rv (RV.idx_a _ rfl rfl rfl rfl rfl (by omega)) rfl ?_ | refine OW.rv (RV.idx_az rfl rfl (by omega) rfl rfl (by omega)) rfl ?_)
      (first | refine OW.sv (SV.store rfl (by first | rfl | assumption) rfl rfl rfl (by first | assumption | (simp; done) | (simp; omega) | omega)) ?_ | (refine OW.rot1 ?_; refine OW.sv (SV.store rfl (by first | rfl | assumption) rfl rfl rfl (by first | assumption | (simp; done) | (simp; omega) | omega)) ?_) | (refine OW.rot2 ?_; refine OW.sv (SV.store rfl (by first | rfl | assumption) rfl rfl rfl (by first | assumption | (simp; done) | (simp; omega) | omega)) ?_) | (refine OW.rot3 ?_; refine OW.sv (SV.store rfl (by first | rfl | assumption) rfl rfl rfl (by first | assumption | (simp; done) | (simp; omega) | omega)) ?_) | (refine OW.rot4 ?_; refine OW.sv (SV.store rfl (by first | rfl | assumption) rfl rfl rfl (by first | assumption | (simp; done) | (simp; omega) | omega)) ?_))
      refine OW.nil ?_
      (repeat (first | refine CW.seq ?_ | refine QW.then_n ?_ | refine CW.block ?_ | refine CW.ret ?_ | refine CW.skip ?_ | refine CW.exit ?_ | refine QW.then_x ?_ | refine QW.then_r ?_ | refine QW.block_n ?_ | refine QW.block_xe ?_ | refine QW.block_xn rfl ?_ | refine QW.block_r ?_))
      (repeat (first | refine CW.seq ?_ | refine QW.then_n ?_ | refine CW.block ?_ | refine CW.ret ?_ | refine CW.skip ?_ | refine CW.exit ?_ | refine QW.then_x ?_ | refine QW.then_r ?_ | refine QW.block_n ?_ | refine QW.block_xe ?_ | refine QW.block_xn rfl ?_ | refine QW.block_r ?_))
      refine CW.region ?_
      refine OW.rv (RV.move rfl) rfl ?_
      refine OW.rv (RV.quo rfl rfl (by omega) (by omega) (by omega)) rfl ?_
      refine OW.rv (RV.assign rfl) rfl ?_
      refine OW.nil ?_
      (repeat (first | refine CW.seq ?_ | refine QW.then_n ?_ | refine CW.block ?_ | refine CW.ret ?_ | refine CW.skip ?_ | refine CW.exit ?_ | refine QW.then_x ?_ | refine QW.then_r ?_ | refine QW.block_n ?_ | refine QW.block_xe ?_ | refine QW.block_xn rfl ?_ | refine QW.block_r ?_))
      (repeat (first | refine CW.seq ?_ | refine QW.then_n ?_ | refine CW.block ?_ | refine CW.ret ?_ | refine CW.skip ?_ | refine CW.exit ?_ | refine QW.then_x ?_ | refine QW.then_r ?_ | refine QW.block_n ?_ | refine QW.block_xe ?_ | refine QW.block_xn rfl ?_ | refine QW.block_r ?_))
      refine CW.region ?_
      refine OW.rv (RV.move rfl) rfl ?_
      refine OW.rv (RV.add rfl rfl (by omega)) rfl ?_
      refine OW.rv (RV.assign rfl) rfl ?_
      refine OW.nil ?_
      (repeat (first | refine CW.seq ?_ | refine QW.then_n ?_ | refine CW.block ?_ | refine CW.ret ?_ | refine CW.skip ?_ | refine CW.exit ?_ | refine QW.then_x ?_ | refine QW.then_r ?_ | refine QW.block_n ?_ | refine QW.block_xe ?_ | refine QW.block_xn rfl ?_ | refine QW.block_r ?_))
      generalize hV : z.getD (i + j) 0 + x.getD i 0 * y.getD j 0 + c = V
      refine QW.again (j + 1, z.set (i + j) (V % 65536), V / 65536) ⟨by show j + 1 ≤ 8; omega, hn.set ⟨by omega, by omega⟩, fun k hk => ?_, by show 0 ≤ V / 65536; omega, by show V / 65536 < 65536; omega, ?_⟩ (by show 8 - (j + 1) < 8 - j; omega) ⟨rfl, rfl, rfl, rfl, rfl, rfl, rfl, trivial⟩ (fun _ m => ?_)
      · show (z.set (i + j) (V % 65536)).getD k 0 = 0
        rw [getD_set_int _ _ _ _ (by omega), if_neg (by omega)]; exact hz k hk
      · show vt (z.set (i + j) (V % 65536)) 16 + V / 65536 * 65536 ^ (i + (j + 1)) = vt x i * vt y 8 + x.getD i 0 * 65536 ^ i * vt y (j + 1)
        rw [vt_set (by omega), if_pos (by omega), vt_succ y j, show i + (j + 1) = (i + j) + 1 by omega, Int.pow_succ]
        have e : V = V / 65536 * 65536 + V % 65536 := by omega
        have e3 : (65536 : Int) ^ (i + j) = 65536 ^ i * 65536 ^ j := Int.pow_add ..
        rw [e3] at hv ⊢
        generalize (65536 : Int) ^ i = p at hv ⊢
        generalize (65536 : Int) ^ j = q at hv ⊢
        generalize V / 65536 = Q at e ⊢
        generalize V % 65536 = R at e ⊢
        generalize vt z 16 = Z at hv ⊢
        generalize vt x i * vt y 8 = T at hv ⊢
        generalize vt y j = Y at hv ⊢
        generalize z.getD (i + j) 0 = zz at hV ⊢
        generalize x.getD i 0 = xx at hV hv ⊢
        generalize y.getD j 0 = yy at hV ⊢
        have e4 : R = zz + xx * yy + c - Q * 65536 := by omega
        subst e4
        grind
      · first | rw [et, i64s_set'] at m | rw [Nat.zero_add, i64s_set'] at m
        exact m
    · have hj8 : j = 8 := by omega
      subst hj8
      have et : 0 + ((i : Int) + 8).toNat = i + 8 := by omega
      have gz : (i64s z)[0 + ((i : Int) + 8).toNat]? = some (.int .i64 0) := by rw [et, i64s_get (by omega), hz (i + 8) (Nat.le_refl _)]
      have hl2 : 0 + ((i : Int) + 8).toNat < (i64s z).length := by rw [et, i64s_length]; omega
      (repeat (first | refine CW.seq ?_ | refine QW.then_n ?_ | refine CW.block ?_ | refine CW.ret ?_ | refine CW.skip ?_ | refine CW.exit ?_ | refine QW.then_x ?_ | refine QW.then_r ?_ | refine QW.block_n ?_ | refine QW.block_xe ?_ | refine QW.block_xn rfl ?_ | refine QW.block_r ?_))
      refine CW.region ?_
      refine OW.rv (RV.move rfl) rfl ?_
      refine OW.rv (RV.add rfl rfl (by omega)) rfl ?_
      refine OW.rv (RV.move rfl) rfl ?_
      refine OW.rv (RV.add rfl rfl (by omega)) rfl ?_
      (first | refine OW.rv (RV.idx_a _ rfl rfl rfl rfl rfl (by omega)) rfl ?_ | refine OW.rv (RV.idx_az rfl rfl (by omega) rfl rfl (by omega)) rfl ?_)
      (first | refine OW.rv (RV.load rfl (by (repeat (first | exact List.Mem.head _ | assumption | refine List.Mem.tail _ ?_)); done) (by first | rfl | assumption) rfl rfl (by first | rfl | assumption)) rfl ?_ | refine OW.rv (RV.load_at rfl rfl rfl (by (repeat (first | assumption | refine Mem.Says.cons ?_)); done)) rfl ?_)
      refine OW.rv (RV.move rfl) rfl ?_
      refine OW.rv (RV.add rfl rfl (by omega)) rfl ?_
      (first | refine OW.rv (RV.idx_a _ rfl rfl rfl rfl rfl (by omega)) rfl ?_ | refine OW.rv (RV.idx_az rfl rfl (by omega) rfl rfl (by omega)) rfl ?_)
      (first | refine OW.sv (SV.store rfl (by first | rfl | assumption) rfl rfl rfl (by first | assumption | (simp; done) | (simp; omega) | omega)) ?_ | (refine OW.rot1 ?_; refine OW.sv (SV.store rfl (by first | rfl | assumption) rfl rfl rfl (by first | assumption | (simp; done) | (simp; omega) | omega)) ?_) | (refine OW.rot2 ?_; refine OW.sv (SV.store rfl (by first | rfl | assumption) rfl rfl rfl (by first | assumption | (simp; done) | (simp; omega) | omega)) ?_) | (refine OW.rot3 ?_; refine OW.sv (SV.store rfl (by first | rfl | assumption) rfl rfl rfl (by first | assumption | (simp; done) | (simp; omega) | omega)) ?_) | (refine OW.rot4 ?_; refine OW.sv (SV.store rfl (by first | rfl | assumption) rfl rfl rfl (by first | assumption | (simp; done) | (simp; omega) | omega)) ?_))
      refine OW.nil ?_
      (repeat (first | refine CW.seq ?_ | refine QW.then_n ?_ | refine CW.block ?_ | refine CW.ret ?_ | refine CW.skip ?_ | refine CW.exit ?_ | refine QW.then_x ?_ | refine QW.then_r ?_ | refine QW.block_n ?_ | refine QW.block_xe ?_ | refine QW.block_xn rfl ?_ | refine QW.block_r ?_))
      (repeat (first | refine CW.seq ?_ | refine QW.then_n ?_ | refine CW.block ?_ | refine CW.ret ?_ | refine CW.skip ?_ | refine CW.exit ?_ | refine QW.then_x ?_ | refine QW.then_r ?_ | refine QW.block_n ?_ | refine QW.block_xe ?_ | refine QW.block_xn rfl ?_ | refine QW.block_r ?_))
      refine CW.region ?_
      refine OW.rv (RV.move rfl) rfl ?_
      refine OW.rv (RV.add rfl rfl (by omega)) rfl ?_
      refine OW.rv (RV.assign rfl) rfl ?_
      refine OW.nil ?_
      (repeat (first | refine CW.seq ?_ | refine QW.then_n ?_ | refine CW.block ?_ | refine CW.ret ?_ | refine CW.skip ?_ | refine CW.exit ?_ | refine QW.then_x ?_ | refine QW.then_r ?_ | refine QW.block_n ?_ | refine QW.block_xe ?_ | refine QW.block_xn rfl ?_ | refine QW.block_r ?_))
      refine QW.again (i + 1, z.set (i + 8) c) ⟨by show i + 1 ≤ 8; omega, hn.set ⟨hc0, hc1⟩, fun k hk => ?_, ?_⟩ (by show 8 - (i + 1) < 8 - i; omega) ⟨rfl, rfl, rfl, rfl, rfl, trivial⟩ (fun _ m => ?_)
      · have hk' : i + 1 + 8 ≤ k := hk
        show (z.set (i + 8) c).getD k 0 = 0
        rw [getD_set_int _ _ _ _ (by omega), if_neg (by omega)]; exact hz k (by omega)
      · show vt (z.set (i + 8) c) 16 = vt x (i + 1) * vt y 8
        rw [vt_set (by omega), if_pos (by omega), hz (i + 8) (Nat.le_refl _), vt_succ x i, Int.sub_zero, Int.add_mul, hv]
      · first | rw [et, i64s_set', Int.zero_add] at m | rw [Nat.zero_add, i64s_set', Int.zero_add] at m
        exact m
  · have hi8 : i = 8 := by omega
    subst hi8
    have hzl : z.length = 16 := hn.1
    (repeat (first | refine CW.seq ?_ | refine QW.then_n ?_ | refine CW.block ?_ | refine CW.ret ?_ | refine CW.skip ?_ | refine CW.exit ?_ | refine QW.then_x ?_ | refine QW.then_r ?_ | refine QW.block_n ?_ | refine QW.block_xe ?_ | refine QW.block_xn rfl ?_ | refine QW.block_r ?_))
    refine CW.region ?_
    (first | refine OW.rv (RV.loadW rfl (by (repeat (first | exact List.Mem.head _ | assumption | refine List.Mem.tail _ ?_)); done) (by first | rfl | assumption) rfl rfl rfl (by first | assumption | exact (i64s_length _).trans (List.length_replicate ..) | exact (i64s_length _).trans (by assumption) | rfl | (simp; done) | (simp [*]; done) | (simp [*]; rfl))) rfl ?_ | refine OW.rv (RV.loadAo rfl (by (repeat (first | exact List.Mem.head _ | assumption | refine List.Mem.tail _ ?_)); done) (by first | rfl | assumption) rfl rfl rfl (by assumption) (by first | assumption | exact (i64s_length _).trans (List.length_replicate ..) | exact (i64s_length _).trans (by assumption) | rfl | (simp; done) | (simp [*]; done) | (simp [*]; rfl))) rfl ?_ | refine OW.rv (RV.loadAs rfl rfl rfl rfl (by (repeat (first | assumption | refine Mem.Says.cons ?_)); done) (by first | assumption | exact (i64s_length _).trans (List.length_replicate ..) | exact (i64s_length _).trans (by assumption) | rfl | (simp; done) | (simp [*]; done) | (simp [*]; rfl))) rfl ?_)
    (first | (first | refine OW.sv (SV.storeW rfl (by first | rfl | assumption) rfl (by first | exact i64s_one _ | assumption) rfl (by first | assumption | exact (i64s_length _).trans (List.length_replicate ..) | exact (i64s_length _).trans (by assumption) | rfl | (simp; done) | (simp [*]; done) | (simp [*]; rfl)) (by first | assumption | exact (i64s_length _).trans (List.length_replicate ..) | exact (i64s_length _).trans (by assumption) | rfl | (simp; done) | (simp [*]; done) | (simp [*]; rfl))) ?_ | refine OW.sv (SV.storeAs rfl (by first | rfl | assumption) rfl (by first | exact i64s_one _ | assumption) rfl (by first | assumption | exact (i64s_length _).trans (List.length_replicate ..) | exact (i64s_length _).trans (by assumption) | rfl | (simp; done) | (simp [*]; done) | (simp [*]; rfl)) (by first | assumption | (simp; done) | (simp; omega) | omega)) ?_) | (refine OW.rot1 ?_; (first | refine OW.sv (SV.storeW rfl (by first | rfl | assumption) rfl (by first | exact i64s_one _ | assumption) rfl (by first | assumption | exact (i64s_length _).trans (List.length_replicate ..) | exact (i64s_length _).trans (by assumption) | rfl | (simp; done) | (simp [*]; done) | (simp [*]; rfl)) (by first | assumption | exact (i64s_length _).trans (List.length_replicate ..) | exact (i64s_length _).trans (by assumption) | rfl | (simp; done) | (simp [*]; done) | (simp [*]; rfl))) ?_ | refine OW.sv (SV.storeAs rfl (by first | rfl | assumption) rfl (by first | exact i64s_one _ | assumption) rfl (by first | assumption | exact (i64s_length _).trans (List.length_replicate ..) | exact (i64s_length _).trans (by assumption) | rfl | (simp; done) | (simp [*]; done) | (simp [*]; rfl)) (by first | assumption | (simp; done) | (simp; omega) | omega)) ?_)) | (refine OW.rot2 ?_; (first | refine OW.sv (SV.storeW rfl (by first | rfl | assumption) rfl (by first | exact i64s_one _ | assumption) rfl (by first | assumption | exact (i64s_length _).trans (List.length_replicate ..) | exact (i64s_length _).trans (by assumption) | rfl | (simp; done) | (simp [*]; done) | (simp [*]; rfl)) (by first | assumption | exact (i64s_length _).trans (List.length_replicate ..) | exact (i64s_length _).trans (by assumption) | rfl | (simp; done) | (simp [*]; done) | (simp [*]; rfl))) ?_ | refine OW.sv (SV.storeAs rfl (by first | rfl | assumption) rfl (by first | exact i64s_one _ | assumption) rfl (by first | assumption | exact (i64s_length _).trans (List.length_replicate ..) | exact (i64s_length _).trans (by assumption) | rfl | (simp; done) | (simp [*]; done) | (simp [*]; rfl)) (by first | assumption | (simp; done) | (simp; omega) | omega)) ?_)) | (refine OW.rot3 ?_; (first | refine OW.sv (SV.storeW rfl (by first | rfl | assumption) rfl (by first | exact i64s_one _ | assumption) rfl (by first | assumption | exact (i64s_length _).trans (List.length_replicate ..) | exact (i64s_length _).trans (by assumption) | rfl | (simp; done) | (simp [*]; done) | (simp [*]; rfl)) (by first | assumption | exact (i64s_length _).trans (List.length_replicate ..) | exact (i64s_length _).trans (by assumption) | rfl | (simp; done) | (simp [*]; done) | (simp [*]; rfl))) ?_ | refine OW.sv (SV.storeAs rfl (by first | rfl | assumption) rfl (by first | exact i64s_one _ | assumption) rfl (by first | assumption | exact (i64s_length _).trans (List.length_replicate ..) | exact (i64s_length _).trans (by assumption) | rfl | (simp; done) | (simp [*]; done) | (simp [*]; rfl)) (by first | assumption | (simp; done) | (simp; omega) | omega)) ?_)) | (refine OW.rot4 ?_; (first | refine OW.sv (SV.storeW rfl (by first | rfl | assumption) rfl (by first | exact i64s_one _ | assumption) rfl (by first | assumption | exact (i64s_length _).trans (List.length_replicate ..) | exact (i64s_length _).trans (by assumption) | rfl | (simp; done) | (simp [*]; done) | (simp [*]; rfl)) (by first | assumption | exact (i64s_length _).trans (List.length_replicate ..) | exact (i64s_length _).trans (by assumption) | rfl | (simp; done) | (simp [*]; done) | (simp [*]; rfl))) ?_ | refine OW.sv (SV.storeAs rfl (by first | rfl | assumption) rfl (by first | exact i64s_one _ | assumption) rfl (by first | assumption | exact (i64s_length _).trans (List.length_replicate ..) | exact (i64s_length _).trans (by assumption) | rfl | (simp; done) | (simp [*]; done) | (simp [*]; rfl)) (by first | assumption | (simp; done) | (simp; omega) | omega)) ?_)) | (refine OW.rot5 ?_; (first | refine OW.sv (SV.storeW rfl (by first | rfl | assumption) rfl (by first | exact i64s_one _ | assumption) rfl (by first | assumption | exact (i64s_length _).trans (List.length_replicate ..) | exact (i64s_length _).trans (by assumption) | rfl | (simp; done) | (simp [*]; done) | (simp [*]; rfl)) (by first | assumption | exact (i64s_length _).trans (List.length_replicate ..) | exact (i64s_length _).trans (by assumption) | rfl | (simp; done) | (simp [*]; done) | (simp [*]; rfl))) ?_ | refine OW.sv (SV.storeAs rfl (by first | rfl | assumption) rfl (by first | exact i64s_one _ | assumption) rfl (by first | assumption | exact (i64s_length _).trans (List.length_replicate ..) | exact (i64s_length _).trans (by assumption) | rfl | (simp; done) | (simp [*]; done) | (simp [*]; rfl)) (by first | assumption | (simp; done) | (simp; omega) | omega)) ?_)) | (refine OW.rot6 ?_; (first | refine OW.sv (SV.storeW rfl (by first | rfl | assumption) rfl (by first | exact i64s_one _ | assumption) rfl (by first | assumption | exact (i64s_length _).trans (List.length_replicate ..) | exact (i64s_length _).trans (by assumption) | rfl | (simp; done) | (simp [*]; done) | (simp [*]; rfl)) (by first | assumption | exact (i64s_length _).trans (List.length_replicate ..) | exact (i64s_length _).trans (by assumption) | rfl | (simp; done) | (simp [*]; done) | (simp [*]; rfl))) ?_ | refine OW.sv (SV.storeAs rfl (by first | rfl | assumption) rfl (by first | exact i64s_one _ | assumption) rfl (by first | assumption | exact (i64s_length _).trans (List.length_replicate ..) | exact (i64s_length _).trans (by assumption) | rfl | (simp; done) | (simp [*]; done) | (simp [*]; rfl)) (by first | assumption | (simp; done) | (simp; omega) | omega)) ?_)))
    refine OW.nil ?_
    (repeat (first | refine CW.seq ?_ | refine QW.then_n ?_ | refine CW.block ?_ | refine CW.ret ?_ | refine CW.skip ?_ | refine CW.exit ?_ | refine QW.then_x ?_ | refine QW.then_r ?_ | refine QW.block_n ?_ | refine QW.block_xe ?_ | refine QW.block_xn rfl ?_ | refine QW.block_r ?_))
    exact QW.retC1 rfl z ⟨hn, hv⟩ rfl (List.Mem.head _) rfl rfl rfl rfl ((i64s_length _).trans hzl) rfl (fun _ m => m.tail.tail.tail.tail)
theorem atMost_does (w0 : World) (M : List Ent) (x y : List Int) (hx : Norm x) (hy : Norm y) :
    Does Tryd.prog 59 [.agg (i64s x).toArray, .agg (i64s y).toArray] w0 M (τ := Unit) (fun _ => True) (fun _ => .bool (decide (vt x 16 ≤ vt y 16))) (fun _ => M) := by
  have hxl : x.length = 16 := hx.1
  have hyl : y.length = 16 := hy.1
  refine Does.enter Tryd.func59 rfl Tryd.ntmps59 rfl ?_
  (repeat (first | refine CW.seq ?_ | refine QW.then_n ?_ | refine CW.block ?_ | refine CW.ret ?_ | refine CW.skip ?_ | refine CW.exit ?_ | refine QW.then_x ?_ | refine QW.then_r ?_ | refine QW.block_n ?_ | refine QW.block_xe ?_ | refine QW.block_xn rfl ?_ | refine QW.block_r ?_))
  refine CW.region ?_
  refine OW.boxA rfl rfl (fun b2 => ?_)
  refine OW.boxA rfl rfl (fun b3 => ?_)
  refine OW.rv (RV.assign rfl) rfl ?_
  refine OW.nil ?_
  (repeat (first | refine CW.seq ?_ | refine QW.then_n ?_ | refine CW.block ?_ | refine CW.ret ?_ | refine CW.skip ?_ | refine CW.exit ?_ | refine QW.then_x ?_ | refine QW.then_r ?_ | refine QW.block_n ?_ | refine QW.block_xe ?_ | refine QW.block_xn rfl ?_ | refine QW.block_r ?_))
  (repeat (first | refine CW.seq ?_ | refine QW.then_n ?_ | refine CW.block ?_ | refine CW.ret ?_ | refine CW.skip ?_ | refine CW.exit ?_ | refine QW.then_x ?_ | refine QW.then_r ?_ | refine QW.block_n ?_ | refine QW.block_xe ?_ | refine QW.block_xn rfl ?_ | refine QW.block_r ?_))
  refine CW.region ?_
  refine OW.rv (RV.assign rfl) rfl ?_
  refine OW.nil ?_
  (repeat (first | refine CW.seq ?_ | refine QW.then_n ?_ | refine CW.block ?_ | refine CW.ret ?_ | refine CW.skip ?_ | refine CW.exit ?_ | refine QW.then_x ?_ | refine QW.then_r ?_ | refine QW.block_n ?_ | refine QW.block_xe ?_ | refine QW.block_xn rfl ?_ | refine QW.block_r ?_))
  refine CW.loop (σ := Nat) (fun n => n ≤ 16 ∧ ∀ k, n ≤ k → k < 16 → x.getD k 0 = y.getD k 0) (fun n => [(2, ptr (some b2) 0), (3, ptr (some b3) 0), (5, .int .i64 ((n : Int) - 1))])
    (fun n => (some b3, blk (i64s y) 90) :: (some b2, blk (i64s x) 90) :: M) (fun n => n) 16 ⟨by omega, fun k h1 h2 => by omega⟩ ⟨rfl, rfl, rfl, trivial⟩ (fun _ m => m) ?_
  rintro n ⟨hn, he⟩
  (repeat (first | refine CW.seq ?_ | refine QW.then_n ?_ | refine CW.block ?_ | refine CW.ret ?_ | refine CW.skip ?_ | refine CW.exit ?_ | refine QW.then_x ?_ | refine QW.then_r ?_ | refine QW.block_n ?_ | refine QW.block_xe ?_ | refine QW.block_xn rfl ?_ | refine QW.block_r ?_))
  refine CW.region ?_
  refine OW.rv (RV.move rfl) rfl ?_
  refine OW.rv (RV.geq rfl rfl) rfl ?_
  refine OW.nil ?_
  (repeat (first | refine CW.seq ?_ | refine QW.then_n ?_ | refine CW.block ?_ | refine CW.ret ?_ | refine CW.skip ?_ | refine CW.exit ?_ | refine QW.then_x ?_ | refine QW.then_r ?_ | refine QW.block_n ?_ | refine QW.block_xe ?_ | refine QW.block_xn rfl ?_ | refine QW.block_r ?_))
  (first | refine CW.cond_t rfl ?_ | refine CW.cond_f rfl ?_ | refine CW.cond_p rfl (fun hlt => ?_) (fun hlt => ?_) | refine CW.cond_np rfl (fun hlt => ?_) (fun hlt => ?_) | refine CW.cond rfl (fun hlt => ?_) (fun hlt => ?_))
  · have hn1 : 1 ≤ n := by omega
    have et : 0 + ((n : Int) - 1).toNat = n - 1 := by omega
    have gx : (i64s x)[0 + ((n : Int) - 1).toNat]? = some (.int .i64 (x.getD (n - 1) 0)) := by rw [et]; exact i64s_get (by omega)
    have gy : (i64s y)[0 + ((n : Int) - 1).toNat]? = some (.int .i64 (y.getD (n - 1) 0)) := by rw [et]; exact i64s_get (by omega)
    (repeat (first | refine CW.seq ?_ | refine QW.then_n ?_ | refine CW.block ?_ | refine CW.ret ?_ | refine CW.skip ?_ | refine CW.exit ?_ | refine QW.then_x ?_ | refine QW.then_r ?_ | refine QW.block_n ?_ | refine QW.block_xe ?_ | refine QW.block_xn rfl ?_ | refine QW.block_r ?_))
    refine CW.draws mixed (by kernel_rfl) ?_
    refine DW.rv (RV.move rfl) rfl ?_
    (first | refine DW.rv (RV.idx_a _ rfl rfl rfl rfl rfl (by omega)) rfl ?_ | refine DW.rv (RV.idx_az rfl rfl (by omega) rfl rfl (by omega)) rfl ?_)
    (first | refine DW.rv (RV.load rfl (by (repeat (first | exact List.Mem.head _ | assumption | refine List.Mem.tail _ ?_)); done) (by first | rfl | assumption) rfl rfl (by first | rfl | assumption)) rfl ?_ | refine DW.rv (RV.load_at rfl rfl rfl (by (repeat (first | assumption | refine Mem.Says.cons ?_)); done)) rfl ?_)
    refine DW.rv (RV.move rfl) rfl ?_
    (first | refine DW.rv (RV.idx_a _ rfl rfl rfl rfl rfl (by omega)) rfl ?_ | refine DW.rv (RV.idx_az rfl rfl (by omega) rfl rfl (by omega)) rfl ?_)
    (first | refine DW.rv (RV.load rfl (by (repeat (first | exact List.Mem.head _ | assumption | refine List.Mem.tail _ ?_)); done) (by first | rfl | assumption) rfl rfl (by first | rfl | assumption)) rfl ?_ | refine DW.rv (RV.load_at rfl rfl rfl (by (repeat (first | assumption | refine Mem.Says.cons ?_)); done)) rfl ?_)
    refine DW.rv (RV.neq rfl rfl) rfl ?_
    refine DW.nil ?_
    (repeat (first | refine CW.seq ?_ | refine QW.then_n ?_ | refine CW.block ?_ | refine CW.ret ?_ | refine CW.skip ?_ | refine CW.exit ?_ | refine QW.then_x ?_ | refine QW.then_r ?_ | refine QW.block_n ?_ | refine QW.block_xe ?_ | refine QW.block_xn rfl ?_ | refine QW.block_r ?_))
    (first | refine CW.cond_t rfl ?_ | refine CW.cond_f rfl ?_ | refine CW.cond_p rfl (fun hne => ?_) (fun hne => ?_) | refine CW.cond_np rfl (fun hne => ?_) (fun hne => ?_) | refine CW.cond rfl (fun hne => ?_) (fun hne => ?_))
    · have hne' : x.getD (n - 1) 0 ≠ y.getD (n - 1) 0 := hne
      have hc := cmp_limbs hx hy (i := n - 1) (by omega) (fun k h1 h2 => he k (by omega) h2) hne'
      (repeat (first | refine CW.seq ?_ | refine QW.then_n ?_ | refine CW.block ?_ | refine CW.ret ?_ | refine CW.skip ?_ | refine CW.exit ?_ | refine QW.then_x ?_ | refine QW.then_r ?_ | refine QW.block_n ?_ | refine QW.block_xe ?_ | refine QW.block_xn rfl ?_ | refine QW.block_r ?_))
      refine CW.draws mixed (by kernel_rfl) ?_
      refine DW.rv (RV.move rfl) rfl ?_
      (first | refine DW.rv (RV.idx_a _ rfl rfl rfl rfl rfl (by omega)) rfl ?_ | refine DW.rv (RV.idx_az rfl rfl (by omega) rfl rfl (by omega)) rfl ?_)
      (first | refine DW.rv (RV.load rfl (by (repeat (first | exact List.Mem.head _ | assumption | refine List.Mem.tail _ ?_)); done) (by first | rfl | assumption) rfl rfl (by first | rfl | assumption)) rfl ?_ | refine DW.rv (RV.load_at rfl rfl rfl (by (repeat (first | assumption | refine Mem.Says.cons ?_)); done)) rfl ?_)
      refine DW.rv (RV.move rfl) rfl ?_
      (first | refine DW.rv (RV.idx_a _ rfl rfl rfl rfl rfl (by omega)) rfl ?_ | refine DW.rv (RV.idx_az rfl rfl (by omega) rfl rfl (by omega)) rfl ?_)
      (first | refine DW.rv (RV.load rfl (by (repeat (first | exact List.Mem.head _ | assumption | refine List.Mem.tail _ ?_)); done) (by first | rfl | assumption) rfl rfl (by first | rfl | assumption)) rfl ?_ | refine DW.rv (RV.load_at rfl rfl rfl (by (repeat (first | assumption | refine Mem.Says.cons ?_)); done)) rfl ?_)
      refine DW.rv (RV.lss rfl rfl) rfl ?_
      refine DW.rv (RV.assign rfl) rfl ?_
      refine DW.nil ?_
      (repeat (first | refine CW.seq ?_ | refine QW.then_n ?_ | refine CW.block ?_ | refine CW.ret ?_ | refine CW.skip ?_ | refine CW.exit ?_ | refine QW.then_x ?_ | refine QW.then_r ?_ | refine QW.block_n ?_ | refine QW.block_xe ?_ | refine QW.block_xn rfl ?_ | refine QW.block_r ?_))
      refine QW.ret1 rfl () trivial ?_ (fun _ m => m.tail.tail)
      have e : decide (vt x 16 ≤ vt y 16) = decide (x.getD (n - 1) 0 < y.getD (n - 1) 0) := decide_eq_decide.2 hc
      rw [e]; rfl
    · (repeat (first | refine CW.seq ?_ | refine QW.then_n ?_ | refine CW.block ?_ | refine CW.ret ?_ | refine CW.skip ?_ | refine CW.exit ?_ | refine QW.then_x ?_ | refine QW.then_r ?_ | refine QW.block_n ?_ | refine QW.block_xe ?_ | refine QW.block_xn rfl ?_ | refine QW.block_r ?_))
      refine CW.region ?_
      refine OW.rv (RV.move rfl) rfl ?_
      refine OW.rv (RV.sub rfl rfl (by omega)) rfl ?_
      refine OW.rv (RV.assign rfl) rfl ?_
      refine OW.nil ?_
      (repeat (first | refine CW.seq ?_ | refine QW.then_n ?_ | refine CW.block ?_ | refine CW.ret ?_ | refine CW.skip ?_ | refine CW.exit ?_ | refine QW.then_x ?_ | refine QW.then_r ?_ | refine QW.block_n ?_ | refine QW.block_xe ?_ | refine QW.block_xn rfl ?_ | refine QW.block_r ?_))
      refine QW.again (n - 1) ⟨by omega, fun k h1 h2 => ?_⟩ (by omega) ⟨rfl, rfl, ?_, trivial⟩ (fun _ m => m)
      · by_cases hk : n ≤ k
        · exact he k hk h2
        · have : k = n - 1 := by omega
          subst this
          exact hne
      · exact congrArg (fun i => some (Value.int .i64 i)) (by omega)
  · have hn0 : n = 0 := by omega
    subst hn0
    (repeat (first | refine CW.seq ?_ | refine QW.then_n ?_ | refine CW.block ?_ | refine CW.ret ?_ | refine CW.skip ?_ | refine CW.exit ?_ | refine QW.then_x ?_ | refine QW.then_r ?_ | refine QW.block_n ?_ | refine QW.block_xe ?_ | refine QW.block_xn rfl ?_ | refine QW.block_r ?_))
    refine CW.region ?_
    refine OW.rv (RV.assign rfl) rfl ?_
    refine OW.nil ?_
    (repeat (first | refine CW.seq ?_ | refine QW.then_n ?_ | refine CW.block ?_ | refine CW.ret ?_ | refine CW.skip ?_ | refine CW.exit ?_ | refine QW.then_x ?_ | refine QW.then_r ?_ | refine QW.block_n ?_ | refine QW.block_xe ?_ | refine QW.block_xn rfl ?_ | refine QW.block_r ?_))
    refine QW.ret1 rfl () trivial ?_ (fun _ m => m.tail.tail)
    have h := vt_congr (x := x) (y := y) (i := 0) (n := 16) (by decide) (fun k _ h2 => he k (Nat.zero_le _) h2)
    have e : decide (vt x 16 ≤ vt y 16) = true := decide_eq_true (by rw [vt_0, vt_0] at h; omega)
    rw [e]; rfl
end Go.Fw.Tryd
