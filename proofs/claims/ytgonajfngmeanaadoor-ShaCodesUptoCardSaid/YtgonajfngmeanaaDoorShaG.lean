/- Part of a proof: rules that its law uses. -/
import Derived.Test.YtgonajfngmeanaaDoorShaE
namespace Go.Fw.Tryd
open Go Go.Proofs
set_option maxRecDepth 100000
set_option linter.unusedVariables false
attribute [local irreducible] vt
theorem prime_does (w0 : World) (M : List Ent) (n : Nat) (h2 : 2 ≤ n) (h4 : n ≤ 400) :
    Does Tryd.prog 52 [.int .i64 (n : Int)] w0 M (τ := Unit) (fun _ => True) (fun _ => .bool (primeB n)) (fun _ => M) := by
  refine Does.enter Tryd.func52 rfl Tryd.ntmps52 rfl ?_
  (repeat (first | refine CW.seq ?_ | refine QW.then_n ?_ | refine CW.block ?_ | refine CW.ret ?_ | refine CW.skip ?_ | refine CW.exit ?_ | refine QW.then_x ?_ | refine QW.then_r ?_ | refine QW.block_n ?_ | refine QW.block_xe ?_ | refine QW.block_xn rfl ?_ | refine QW.block_r ?_))
  refine CW.region ?_
  refine OW.rv (RV.assign rfl) rfl ?_
  refine OW.nil ?_
  (repeat (first | refine CW.seq ?_ | refine QW.then_n ?_ | refine CW.block ?_ | refine CW.ret ?_ | refine CW.skip ?_ | refine CW.exit ?_ | refine QW.then_x ?_ | refine QW.then_r ?_ | refine QW.block_n ?_ | refine QW.block_xe ?_ | refine QW.block_xn rfl ?_ | refine QW.block_r ?_))
  (repeat (first | refine CW.seq ?_ | refine QW.then_n ?_ | refine CW.block ?_ | refine CW.ret ?_ | refine CW.skip ?_ | refine CW.exit ?_ | refine QW.then_x ?_ | refine QW.then_r ?_ | refine QW.block_n ?_ | refine QW.block_xe ?_ | refine QW.block_xn rfl ?_ | refine QW.block_r ?_))
  refine CW.region ?_
  refine OW.rv (RV.assign rfl) rfl ?_
  refine OW.nil ?_
  (repeat (first | refine CW.seq ?_ | refine QW.then_n ?_ | refine CW.block ?_ | refine CW.ret ?_ | refine CW.skip ?_ | refine CW.exit ?_ | refine QW.then_x ?_ | refine QW.then_r ?_ | refine QW.block_n ?_ | refine QW.block_xe ?_ | refine QW.block_xn rfl ?_ | refine QW.block_r ?_))
  refine CW.loop (σ := Nat) (fun d => 2 ≤ d ∧ d ≤ n + 1 ∧ ∀ e, 2 ≤ e → e < d → n % e ≠ 0) (fun d => [(0, .int .i64 (n : Int)), (3, .int .i64 (d : Int))]) (fun _ => M) (fun d => n + 2 - d) 2 ⟨by omega, by omega, fun e h1 h2 => by omega⟩ ⟨rfl, rfl, trivial⟩ (fun _ m => m) ?_
  rintro d ⟨hd, hdn, hno⟩
  have hdd : (d : Int) * (d : Int) ≤ 401 * 401 := Int.mul_le_mul (by omega) (by omega) (by omega) (by decide)
  have hdd0 : 0 ≤ (d : Int) * (d : Int) := Int.mul_nonneg (by omega) (by omega)
  have hcast : (d : Int) * (d : Int) = ((d * d : Nat) : Int) := (Int.natCast_mul d d).symm
  (repeat (first | refine CW.seq ?_ | refine QW.then_n ?_ | refine CW.block ?_ | refine CW.ret ?_ | refine CW.skip ?_ | refine CW.exit ?_ | refine QW.then_x ?_ | refine QW.then_r ?_ | refine QW.block_n ?_ | refine QW.block_xe ?_ | refine QW.block_xn rfl ?_ | refine QW.block_r ?_))
  refine CW.region ?_
  refine OW.rv (RV.move rfl) rfl ?_
  refine OW.rv (RV.move rfl) rfl ?_
  refine OW.rv (RV.mul rfl rfl (by omega)) rfl ?_
  refine OW.rv (RV.move rfl) rfl ?_
  refine OW.rv (RV.leq rfl rfl) rfl ?_
  refine OW.nil ?_
  (repeat (first | refine CW.seq ?_ | refine QW.then_n ?_ | refine CW.block ?_ | refine CW.ret ?_ | refine CW.skip ?_ | refine CW.exit ?_ | refine QW.then_x ?_ | refine QW.then_r ?_ | refine QW.block_n ?_ | refine QW.block_xe ?_ | refine QW.block_xn rfl ?_ | refine QW.block_r ?_))
  (first | refine CW.cond_t rfl ?_ | refine CW.cond_f rfl ?_ | refine CW.cond_p rfl (fun hle => ?_) (fun hle => ?_) | refine CW.cond_np rfl (fun hle => ?_) (fun hle => ?_) | refine CW.cond rfl (fun hle => ?_) (fun hle => ?_))
  · have hle' : d * d ≤ n := by rw [hcast] at hle; omega
    have hdn2 : d * 2 ≤ d * d := Nat.mul_le_mul_left d hd
    have hmod : (n : Int) % (d : Int) = ((n % d : Nat) : Int) := (Int.natCast_emod n d).symm
    (repeat (first | refine CW.seq ?_ | refine QW.then_n ?_ | refine CW.block ?_ | refine CW.ret ?_ | refine CW.skip ?_ | refine CW.exit ?_ | refine QW.then_x ?_ | refine QW.then_r ?_ | refine QW.block_n ?_ | refine QW.block_xe ?_ | refine QW.block_xn rfl ?_ | refine QW.block_r ?_))
    refine CW.region ?_
    refine OW.rv (RV.move rfl) rfl ?_
    refine OW.rv (RV.move rfl) rfl ?_
    (first | refine OW.rv (RV.rem rfl rfl (by omega) (by omega)) rfl ?_ | refine OW.rv (RV.trem rfl rfl (by omega)) rfl ?_)
    refine OW.rv (RV.eql rfl rfl) rfl ?_
    refine OW.nil ?_
    (repeat (first | refine CW.seq ?_ | refine QW.then_n ?_ | refine CW.block ?_ | refine CW.ret ?_ | refine CW.skip ?_ | refine CW.exit ?_ | refine QW.then_x ?_ | refine QW.then_r ?_ | refine QW.block_n ?_ | refine QW.block_xe ?_ | refine QW.block_xn rfl ?_ | refine QW.block_r ?_))
    (first | refine CW.cond_t rfl ?_ | refine CW.cond_f rfl ?_ | refine CW.cond_p rfl (fun hz => ?_) (fun hz => ?_) | refine CW.cond_np rfl (fun hz => ?_) (fun hz => ?_) | refine CW.cond rfl (fun hz => ?_) (fun hz => ?_))
    · (repeat (first | refine CW.seq ?_ | refine QW.then_n ?_ | refine CW.block ?_ | refine CW.ret ?_ | refine CW.skip ?_ | refine CW.exit ?_ | refine QW.then_x ?_ | refine QW.then_r ?_ | refine QW.block_n ?_ | refine QW.block_xe ?_ | refine QW.block_xn rfl ?_ | refine QW.block_r ?_))
      refine CW.region ?_
      refine OW.rv (RV.assign rfl) rfl ?_
      refine OW.nil ?_
      (repeat (first | refine CW.seq ?_ | refine QW.then_n ?_ | refine CW.block ?_ | refine CW.ret ?_ | refine CW.skip ?_ | refine CW.exit ?_ | refine QW.then_x ?_ | refine QW.then_r ?_ | refine QW.block_n ?_ | refine QW.block_xe ?_ | refine QW.block_xn rfl ?_ | refine QW.block_r ?_))
      refine QW.ret1 rfl () trivial ?_ (fun _ m => m)
      have e := primeB_no hd hle' (by rw [hmod] at hz; omega)
      rw [e]; rfl
    · (repeat (first | refine CW.seq ?_ | refine QW.then_n ?_ | refine CW.block ?_ | refine CW.ret ?_ | refine CW.skip ?_ | refine CW.exit ?_ | refine QW.then_x ?_ | refine QW.then_r ?_ | refine QW.block_n ?_ | refine QW.block_xe ?_ | refine QW.block_xn rfl ?_ | refine QW.block_r ?_))
      refine CW.region ?_
      refine OW.rv (RV.move rfl) rfl ?_
      refine OW.rv (RV.add rfl rfl (by omega)) rfl ?_
      refine OW.rv (RV.assign rfl) rfl ?_
      refine OW.nil ?_
      (repeat (first | refine CW.seq ?_ | refine QW.then_n ?_ | refine CW.block ?_ | refine CW.ret ?_ | refine CW.skip ?_ | refine CW.exit ?_ | refine QW.then_x ?_ | refine QW.then_r ?_ | refine QW.block_n ?_ | refine QW.block_xe ?_ | refine QW.block_xn rfl ?_ | refine QW.block_r ?_))
      refine QW.again (d + 1) ⟨by omega, by omega, fun e h1 h3 => ?_⟩ (by omega) ⟨rfl, rfl, trivial⟩ (fun _ m => m)
      by_cases he : e = d
      · subst he; rw [hmod] at hz; omega
      · exact hno e h1 (by omega)
  · have hle' : n < d * d := by rw [hcast] at hle; omega
    (repeat (first | refine CW.seq ?_ | refine QW.then_n ?_ | refine CW.block ?_ | refine CW.ret ?_ | refine CW.skip ?_ | refine CW.exit ?_ | refine QW.then_x ?_ | refine QW.then_r ?_ | refine QW.block_n ?_ | refine QW.block_xe ?_ | refine QW.block_xn rfl ?_ | refine QW.block_r ?_))
    refine CW.region ?_
    refine OW.rv (RV.assign rfl) rfl ?_
    refine OW.nil ?_
    (repeat (first | refine CW.seq ?_ | refine QW.then_n ?_ | refine CW.block ?_ | refine CW.ret ?_ | refine CW.skip ?_ | refine CW.exit ?_ | refine QW.then_x ?_ | refine QW.then_r ?_ | refine QW.block_n ?_ | refine QW.block_xe ?_ | refine QW.block_xn rfl ?_ | refine QW.block_r ?_))
    refine QW.ret1 rfl () trivial ?_ (fun _ m => m)
    rw [primeB_yes hle' hno]; rfl
theorem bits2_does (w0 : World) (M : List Ent) (n : Nat) (hn : n < 65536) :
    Does Tryd.prog 53 [.int .i64 (n : Int), .int .i64 2] w0 M (τ := Int) (fun r => 0 ≤ r ∧ r ^ 2 ≤ (n : Int) * 65536 ^ (2 * 2) ∧ (n : Int) * 65536 ^ (2 * 2) < (r + 1) ^ 2) (fun r => U32 (BitVec.ofInt 32 (r % 4294967296))) (fun _ => M) := by
  have hll : zL.length = 16 := List.length_replicate ..
  have hw : Norm (zL.set (2 * 2) n) := zL_norm.set ⟨by omega, by omega⟩
  have hwv : vt (zL.set (2 * 2) n) 16 = (n : Int) * 65536 ^ (2 * 2) := by
    rw [vt_set (by rw [hll]; decide), if_pos (by decide), zL_vt, zL_getD]; omega
  have hwl : (zL.set (2 * 2) (n : Int)).length = 16 := hw.1
  refine Does.enter Tryd.func53 rfl Tryd.ntmps53 rfl ?_
  (repeat (first | refine CW.seq ?_ | refine QW.then_n ?_ | refine CW.block ?_ | refine CW.ret ?_ | refine CW.skip ?_ | refine CW.exit ?_ | refine QW.then_x ?_ | refine QW.then_r ?_ | refine QW.block_n ?_ | refine QW.block_xe ?_ | refine QW.block_xn rfl ?_ | refine QW.block_r ?_))
  refine CW.region ?_
  refine OW.rv (RV.assign rfl) rfl ?_
  refine OW.nil ?_
  (repeat (first | refine CW.seq ?_ | refine QW.then_n ?_ | refine CW.block ?_ | refine CW.ret ?_ | refine CW.skip ?_ | refine CW.exit ?_ | refine QW.then_x ?_ | refine QW.then_r ?_ | refine QW.block_n ?_ | refine QW.block_xe ?_ | refine QW.block_xn rfl ?_ | refine QW.block_r ?_))
  (repeat (first | refine CW.seq ?_ | refine QW.then_n ?_ | refine CW.block ?_ | refine CW.ret ?_ | refine CW.skip ?_ | refine CW.exit ?_ | refine QW.then_x ?_ | refine QW.then_r ?_ | refine QW.block_n ?_ | refine QW.block_xe ?_ | refine QW.block_xn rfl ?_ | refine QW.block_r ?_))
  refine CW.region ?_
  refine OW.alloc (l := i64s (List.replicate 16 0)) rfl (by rw [← i64s_rep]; rfl) rfl (fun b5 => ?_)
  refine OW.nil ?_
  (repeat (first | refine CW.seq ?_ | refine QW.then_n ?_ | refine CW.block ?_ | refine CW.ret ?_ | refine CW.skip ?_ | refine CW.exit ?_ | refine QW.then_x ?_ | refine QW.then_r ?_ | refine QW.block_n ?_ | refine QW.block_xe ?_ | refine QW.block_xn rfl ?_ | refine QW.block_r ?_))
  have hl2 : 0 + 2 * 2 < (i64s zL).length := by rw [i64s_length, hll]; decide
  (repeat (first | refine CW.seq ?_ | refine QW.then_n ?_ | refine CW.block ?_ | refine CW.ret ?_ | refine CW.skip ?_ | refine CW.exit ?_ | refine QW.then_x ?_ | refine QW.then_r ?_ | refine QW.block_n ?_ | refine QW.block_xe ?_ | refine QW.block_xn rfl ?_ | refine QW.block_r ?_))
  refine CW.region ?_
  refine OW.rv (RV.move rfl) rfl ?_
  refine OW.rv (RV.mul rfl rfl (by omega)) rfl ?_
  refine OW.rv (RV.move rfl) rfl ?_
  (first | refine OW.rv (RV.idx_a _ rfl rfl rfl rfl rfl (by omega)) rfl ?_ | refine OW.rv (RV.idx_az rfl rfl (by omega) rfl rfl (by omega)) rfl ?_)
  (first | refine OW.sv (SV.store rfl (by first | rfl | assumption) rfl rfl rfl (by first | assumption | (simp; done) | (simp; omega) | omega)) ?_ | (refine OW.rot1 ?_; refine OW.sv (SV.store rfl (by first | rfl | assumption) rfl rfl rfl (by first | assumption | (simp; done) | (simp; omega) | omega)) ?_) | (refine OW.rot2 ?_; refine OW.sv (SV.store rfl (by first | rfl | assumption) rfl rfl rfl (by first | assumption | (simp; done) | (simp; omega) | omega)) ?_) | (refine OW.rot3 ?_; refine OW.sv (SV.store rfl (by first | rfl | assumption) rfl rfl rfl (by first | assumption | (simp; done) | (simp; omega) | omega)) ?_) | (refine OW.rot4 ?_; refine OW.sv (SV.store rfl (by first | rfl | assumption) rfl rfl rfl (by first | assumption | (simp; done) | (simp; omega) | omega)) ?_))
  refine OW.nil ?_
  (repeat (first | refine CW.seq ?_ | refine QW.then_n ?_ | refine CW.block ?_ | refine CW.ret ?_ | refine CW.skip ?_ | refine CW.exit ?_ | refine QW.then_x ?_ | refine QW.then_r ?_ | refine QW.block_n ?_ | refine QW.block_xe ?_ | refine QW.block_xn rfl ?_ | refine QW.block_r ?_))
  refine CW.mem (M' := (some b5, blk (i64s (zL.set (2 * 2) n)) 90) :: M) (fun _ m => by rw [← i64s_set']; exact m) ?_
  generalize zL.set (2 * 2) (n : Int) = wl at hw hwv hwl ⊢
  have hN : (n : Int) * 65536 ^ (2 * 2) < (281474976710656 : Int) ^ 2 := by
    have e1 : (65536 : Int) * 65536 ^ (2 * 2) ≤ (281474976710656 : Int) ^ 2 := by decide
    exact Int.lt_of_lt_of_le (Int.mul_lt_mul_of_pos_right (by omega) (by decide)) e1
  generalize (n : Int) * 65536 ^ (2 * 2) = N at hwv hN ⊢
  (repeat (first | refine CW.seq ?_ | refine QW.then_n ?_ | refine CW.block ?_ | refine CW.ret ?_ | refine CW.skip ?_ | refine CW.exit ?_ | refine QW.then_x ?_ | refine QW.then_r ?_ | refine QW.block_n ?_ | refine QW.block_xe ?_ | refine QW.block_xn rfl ?_ | refine QW.block_r ?_))
  refine CW.region ?_
  refine OW.rv (RV.assign rfl) rfl ?_
  refine OW.nil ?_
  (repeat (first | refine CW.seq ?_ | refine QW.then_n ?_ | refine CW.block ?_ | refine CW.ret ?_ | refine CW.skip ?_ | refine CW.exit ?_ | refine QW.then_x ?_ | refine QW.then_r ?_ | refine QW.block_n ?_ | refine QW.block_xe ?_ | refine QW.block_xn rfl ?_ | refine QW.block_r ?_))
  (repeat (first | refine CW.seq ?_ | refine QW.then_n ?_ | refine CW.block ?_ | refine CW.ret ?_ | refine CW.skip ?_ | refine CW.exit ?_ | refine QW.then_x ?_ | refine QW.then_r ?_ | refine QW.block_n ?_ | refine QW.block_xe ?_ | refine QW.block_xn rfl ?_ | refine QW.block_r ?_))
  refine CW.region ?_
  refine OW.rv (RV.assign rfl) rfl ?_
  refine OW.nil ?_
  (repeat (first | refine CW.seq ?_ | refine QW.then_n ?_ | refine CW.block ?_ | refine CW.ret ?_ | refine CW.skip ?_ | refine CW.exit ?_ | refine QW.then_x ?_ | refine QW.then_r ?_ | refine QW.block_n ?_ | refine QW.block_xe ?_ | refine QW.block_xn rfl ?_ | refine QW.block_r ?_))
  refine CW.loop (σ := Int × Int) (fun s => 0 ≤ s.1 ∧ s.1 < s.2 ∧ s.2 ≤ 281474976710656 ∧ s.1 ^ 2 ≤ N ∧ N < s.2 ^ 2) (fun s => [(1, .int .i64 2), (5, ptr (some b5) 0), (6, .int .i64 s.1), (7, .int .i64 s.2)])
    (fun s => (some b5, blk (i64s wl) 90) :: M) (fun s => (s.2 - s.1).toNat) (0, 281474976710656) ⟨by simp, by simp, by simp, ?_, ?_⟩ ⟨rfl, rfl, rfl, rfl, trivial⟩ (fun _ m => m) ?_
  · have := (vt_bound hw.2 16).1
    show (0 : Int) ^ 2 ≤ N
    rw [← hwv]; simpa using this
  · exact hN
  rintro ⟨lo, hi⟩ ⟨h0, h1, h2, h3, h4⟩
  dsimp only at h0 h1 h2 h3 h4 ⊢
  (repeat (first | refine CW.seq ?_ | refine QW.then_n ?_ | refine CW.block ?_ | refine CW.ret ?_ | refine CW.skip ?_ | refine CW.exit ?_ | refine QW.then_x ?_ | refine QW.then_r ?_ | refine QW.block_n ?_ | refine QW.block_xe ?_ | refine QW.block_xn rfl ?_ | refine QW.block_r ?_))
  refine CW.region ?_
  refine OW.rv (RV.move rfl) rfl ?_
  refine OW.rv (RV.move rfl) rfl ?_
  refine OW.rv (RV.sub rfl rfl (by omega)) rfl ?_
  refine OW.rv (RV.gtr rfl rfl) rfl ?_
  refine OW.nil ?_
  (repeat (first | refine CW.seq ?_ | refine QW.then_n ?_ | refine CW.block ?_ | refine CW.ret ?_ | refine CW.skip ?_ | refine CW.exit ?_ | refine QW.then_x ?_ | refine QW.then_r ?_ | refine QW.block_n ?_ | refine QW.block_xe ?_ | refine QW.block_xn rfl ?_ | refine QW.block_r ?_))
  (first | refine CW.cond_t rfl ?_ | refine CW.cond_f rfl ?_ | refine CW.cond_p rfl (fun hgt => ?_) (fun hgt => ?_) | refine CW.cond_np rfl (fun hgt => ?_) (fun hgt => ?_) | refine CW.cond rfl (fun hgt => ?_) (fun hgt => ?_))
  · (repeat (first | refine CW.seq ?_ | refine QW.then_n ?_ | refine CW.block ?_ | refine CW.ret ?_ | refine CW.skip ?_ | refine CW.exit ?_ | refine QW.then_x ?_ | refine QW.then_r ?_ | refine QW.block_n ?_ | refine QW.block_xe ?_ | refine QW.block_xn rfl ?_ | refine QW.block_r ?_))
    refine CW.region ?_
    refine OW.rv (RV.move rfl) rfl ?_
    refine OW.rv (RV.move rfl) rfl ?_
    refine OW.rv (RV.add rfl rfl (by omega)) rfl ?_
    refine OW.rv (RV.quo rfl rfl (by omega) (by omega) (by omega)) rfl ?_
    refine OW.rv (RV.assign rfl) rfl ?_
    refine OW.nil ?_
    (repeat (first | refine CW.seq ?_ | refine QW.then_n ?_ | refine CW.block ?_ | refine CW.ret ?_ | refine CW.skip ?_ | refine CW.exit ?_ | refine QW.then_x ?_ | refine QW.then_r ?_ | refine QW.block_n ?_ | refine QW.block_xe ?_ | refine QW.block_xn rfl ?_ | refine QW.block_r ?_))
    have hm0 : 0 ≤ (lo + hi) / 2 := by omega
    have hm1 : lo < (lo + hi) / 2 := by omega
    have hm2 : (lo + hi) / 2 < hi := by omega
    generalize (lo + hi) / 2 = mid at hm0 hm1 hm2 ⊢
    (repeat (first | refine CW.seq ?_ | refine QW.then_n ?_ | refine CW.block ?_ | refine CW.ret ?_ | refine CW.skip ?_ | refine CW.exit ?_ | refine QW.then_x ?_ | refine QW.then_r ?_ | refine QW.block_n ?_ | refine QW.block_xe ?_ | refine QW.block_xn rfl ?_ | refine QW.block_r ?_))
    refine CW.region ?_
    refine OW.rv (RV.move rfl) rfl ?_
    (refine OW.call Tryd.call57 rfl (limbs_does w0 _ mid hm0 (by omega) (by omega)) rfl (fun ml hml => ?_); have hmll : ml.length = 16 := hml.1.1)
    refine OW.alloc (l := i64s (List.replicate 16 0)) rfl (by rw [← i64s_rep]; rfl) rfl (fun b9 => ?_)
    (first | (first | refine OW.sv (SV.storeW rfl (by first | rfl | assumption) rfl (by first | exact i64s_one _ | assumption) rfl (by first | assumption | exact (i64s_length _).trans (List.length_replicate ..) | exact (i64s_length _).trans (by assumption) | rfl | (simp; done) | (simp [*]; done) | (simp [*]; rfl)) (by first | assumption | exact (i64s_length _).trans (List.length_replicate ..) | exact (i64s_length _).trans (by assumption) | rfl | (simp; done) | (simp [*]; done) | (simp [*]; rfl))) ?_ | refine OW.sv (SV.storeAs rfl (by first | rfl | assumption) rfl (by first | exact i64s_one _ | assumption) rfl (by first | assumption | exact (i64s_length _).trans (List.length_replicate ..) | exact (i64s_length _).trans (by assumption) | rfl | (simp; done) | (simp [*]; done) | (simp [*]; rfl)) (by first | assumption | (simp; done) | (simp; omega) | omega)) ?_) | (refine OW.rot1 ?_; (first | refine OW.sv (SV.storeW rfl (by first | rfl | assumption) rfl (by first | exact i64s_one _ | assumption) rfl (by first | assumption | exact (i64s_length _).trans (List.length_replicate ..) | exact (i64s_length _).trans (by assumption) | rfl | (simp; done) | (simp [*]; done) | (simp [*]; rfl)) (by first | assumption | exact (i64s_length _).trans (List.length_replicate ..) | exact (i64s_length _).trans (by assumption) | rfl | (simp; done) | (simp [*]; done) | (simp [*]; rfl))) ?_ | refine OW.sv (SV.storeAs rfl (by first | rfl | assumption) rfl (by first | exact i64s_one _ | assumption) rfl (by first | assumption | exact (i64s_length _).trans (List.length_replicate ..) | exact (i64s_length _).trans (by assumption) | rfl | (simp; done) | (simp [*]; done) | (simp [*]; rfl)) (by first | assumption | (simp; done) | (simp; omega) | omega)) ?_)) | (refine OW.rot2 ?_; (first | refine OW.sv (SV.storeW rfl (by first | rfl | assumption) rfl (by first | exact i64s_one _ | assumption) rfl (by first | assumption | exact (i64s_length _).trans (List.length_replicate ..) | exact (i64s_length _).trans (by assumption) | rfl | (simp; done) | (simp [*]; done) | (simp [*]; rfl)) (by first | assumption | exact (i64s_length _).trans (List.length_replicate ..) | exact (i64s_length _).trans (by assumption) | rfl | (simp; done) | (simp [*]; done) | (simp [*]; rfl))) ?_ | refine OW.sv (SV.storeAs rfl (by first | rfl | assumption) rfl (by first | exact i64s_one _ | assumption) rfl (by first | assumption | exact (i64s_length _).trans (List.length_replicate ..) | exact (i64s_length _).trans (by assumption) | rfl | (simp; done) | (simp [*]; done) | (simp [*]; rfl)) (by first | assumption | (simp; done) | (simp; omega) | omega)) ?_)) | (refine OW.rot3 ?_; (first | refine OW.sv (SV.storeW rfl (by first | rfl | assumption) rfl (by first | exact i64s_one _ | assumption) rfl (by first | assumption | exact (i64s_length _).trans (List.length_replicate ..) | exact (i64s_length _).trans (by assumption) | rfl | (simp; done) | (simp [*]; done) | (simp [*]; rfl)) (by first | assumption | exact (i64s_length _).trans (List.length_replicate ..) | exact (i64s_length _).trans (by assumption) | rfl | (simp; done) | (simp [*]; done) | (simp [*]; rfl))) ?_ | refine OW.sv (SV.storeAs rfl (by first | rfl | assumption) rfl (by first | exact i64s_one _ | assumption) rfl (by first | assumption | exact (i64s_length _).trans (List.length_replicate ..) | exact (i64s_length _).trans (by assumption) | rfl | (simp; done) | (simp [*]; done) | (simp [*]; rfl)) (by first | assumption | (simp; done) | (simp; omega) | omega)) ?_)) | (refine OW.rot4 ?_; (first | refine OW.sv (SV.storeW rfl (by first | rfl | assumption) rfl (by first | exact i64s_one _ | assumption) rfl (by first | assumption | exact (i64s_length _).trans (List.length_replicate ..) | exact (i64s_length _).trans (by assumption) | rfl | (simp; done) | (simp [*]; done) | (simp [*]; rfl)) (by first | assumption | exact (i64s_length _).trans (List.length_replicate ..) | exact (i64s_length _).trans (by assumption) | rfl | (simp; done) | (simp [*]; done) | (simp [*]; rfl))) ?_ | refine OW.sv (SV.storeAs rfl (by first | rfl | assumption) rfl (by first | exact i64s_one _ | assumption) rfl (by first | assumption | exact (i64s_length _).trans (List.length_replicate ..) | exact (i64s_length _).trans (by assumption) | rfl | (simp; done) | (simp [*]; done) | (simp [*]; rfl)) (by first | assumption | (simp; done) | (simp; omega) | omega)) ?_)) | (refine OW.rot5 ?_; (first | refine OW.sv (SV.storeW rfl (by first | rfl | assumption) rfl (by first | exact i64s_one _ | assumption) rfl (by first | assumption | exact (i64s_length _).trans (List.length_replicate ..) | exact (i64s_length _).trans (by assumption) | rfl | (simp; done) | (simp [*]; done) | (simp [*]; rfl)) (by first | assumption | exact (i64s_length _).trans (List.length_replicate ..) | exact (i64s_length _).trans (by assumption) | rfl | (simp; done) | (simp [*]; done) | (simp [*]; rfl))) ?_ | refine OW.sv (SV.storeAs rfl (by first | rfl | assumption) rfl (by first | exact i64s_one _ | assumption) rfl (by first | assumption | exact (i64s_length _).trans (List.length_replicate ..) | exact (i64s_length _).trans (by assumption) | rfl | (simp; done) | (simp [*]; done) | (simp [*]; rfl)) (by first | assumption | (simp; done) | (simp; omega) | omega)) ?_)) | (refine OW.rot6 ?_; (first | refine OW.sv (SV.storeW rfl (by first | rfl | assumption) rfl (by first | exact i64s_one _ | assumption) rfl (by first | assumption | exact (i64s_length _).trans (List.length_replicate ..) | exact (i64s_length _).trans (by assumption) | rfl | (simp; done) | (simp [*]; done) | (simp [*]; rfl)) (by first | assumption | exact (i64s_length _).trans (List.length_replicate ..) | exact (i64s_length _).trans (by assumption) | rfl | (simp; done) | (simp [*]; done) | (simp [*]; rfl))) ?_ | refine OW.sv (SV.storeAs rfl (by first | rfl | assumption) rfl (by first | exact i64s_one _ | assumption) rfl (by first | assumption | exact (i64s_length _).trans (List.length_replicate ..) | exact (i64s_length _).trans (by assumption) | rfl | (simp; done) | (simp [*]; done) | (simp [*]; rfl)) (by first | assumption | (simp; done) | (simp; omega) | omega)) ?_)))
    refine OW.nil ?_
    (repeat (first | refine CW.seq ?_ | refine QW.then_n ?_ | refine CW.block ?_ | refine CW.ret ?_ | refine CW.skip ?_ | refine CW.exit ?_ | refine QW.then_x ?_ | refine QW.then_r ?_ | refine QW.block_n ?_ | refine QW.block_xe ?_ | refine QW.block_xn rfl ?_ | refine QW.block_r ?_))
    obtain ⟨hmn, hmv⟩ := hml
    have hm8 : ∀ k, 8 ≤ k → ml.getD k 0 = 0 := small_limbs (i := 8) hmn (by decide) (by rw [hmv]; omega)
    (repeat (first | refine CW.seq ?_ | refine QW.then_n ?_ | refine CW.block ?_ | refine CW.ret ?_ | refine CW.skip ?_ | refine CW.exit ?_ | refine QW.then_x ?_ | refine QW.then_r ?_ | refine QW.block_n ?_ | refine QW.block_xe ?_ | refine QW.block_xn rfl ?_ | refine QW.block_r ?_))
    refine CW.region ?_
    (first | refine OW.rv (RV.loadW rfl (by (repeat (first | exact List.Mem.head _ | assumption | refine List.Mem.tail _ ?_)); done) (by first | rfl | assumption) rfl rfl rfl (by first | assumption | exact (i64s_length _).trans (List.length_replicate ..) | exact (i64s_length _).trans (by assumption) | rfl | (simp; done) | (simp [*]; done) | (simp [*]; rfl))) rfl ?_ | refine OW.rv (RV.loadAo rfl (by (repeat (first | exact List.Mem.head _ | assumption | refine List.Mem.tail _ ?_)); done) (by first | rfl | assumption) rfl rfl rfl (by assumption) (by first | assumption | exact (i64s_length _).trans (List.length_replicate ..) | exact (i64s_length _).trans (by assumption) | rfl | (simp; done) | (simp [*]; done) | (simp [*]; rfl))) rfl ?_ | refine OW.rv (RV.loadAs rfl rfl rfl rfl (by (repeat (first | assumption | refine Mem.Says.cons ?_)); done) (by first | assumption | exact (i64s_length _).trans (List.length_replicate ..) | exact (i64s_length _).trans (by assumption) | rfl | (simp; done) | (simp [*]; done) | (simp [*]; rfl))) rfl ?_)
    (first | refine OW.rv (RV.loadW rfl (by (repeat (first | exact List.Mem.head _ | assumption | refine List.Mem.tail _ ?_)); done) (by first | rfl | assumption) rfl rfl rfl (by first | assumption | exact (i64s_length _).trans (List.length_replicate ..) | exact (i64s_length _).trans (by assumption) | rfl | (simp; done) | (simp [*]; done) | (simp [*]; rfl))) rfl ?_ | refine OW.rv (RV.loadAo rfl (by (repeat (first | exact List.Mem.head _ | assumption | refine List.Mem.tail _ ?_)); done) (by first | rfl | assumption) rfl rfl rfl (by assumption) (by first | assumption | exact (i64s_length _).trans (List.length_replicate ..) | exact (i64s_length _).trans (by assumption) | rfl | (simp; done) | (simp [*]; done) | (simp [*]; rfl))) rfl ?_ | refine OW.rv (RV.loadAs rfl rfl rfl rfl (by (repeat (first | assumption | refine Mem.Says.cons ?_)); done) (by first | assumption | exact (i64s_length _).trans (List.length_replicate ..) | exact (i64s_length _).trans (by assumption) | rfl | (simp; done) | (simp [*]; done) | (simp [*]; rfl))) rfl ?_)
    (refine OW.call Tryd.call58 rfl (product_does w0 _ ml ml hmn hmn hm8 hm8) rfl (fun pl hpl => ?_); have hpll : pl.length = 16 := hpl.1.1)
    refine OW.alloc (l := i64s (List.replicate 16 0)) rfl (by rw [← i64s_rep]; rfl) rfl (fun b10 => ?_)
    (first | (first | refine OW.sv (SV.storeW rfl (by first | rfl | assumption) rfl (by first | exact i64s_one _ | assumption) rfl (by first | assumption | exact (i64s_length _).trans (List.length_replicate ..) | exact (i64s_length _).trans (by assumption) | rfl | (simp; done) | (simp [*]; done) | (simp [*]; rfl)) (by first | assumption | exact (i64s_length _).trans (List.length_replicate ..) | exact (i64s_length _).trans (by assumption) | rfl | (simp; done) | (simp [*]; done) | (simp [*]; rfl))) ?_ | refine OW.sv (SV.storeAs rfl (by first | rfl | assumption) rfl (by first | exact i64s_one _ | assumption) rfl (by first | assumption | exact (i64s_length _).trans (List.length_replicate ..) | exact (i64s_length _).trans (by assumption) | rfl | (simp; done) | (simp [*]; done) | (simp [*]; rfl)) (by first | assumption | (simp; done) | (simp; omega) | omega)) ?_) | (refine OW.rot1 ?_; (first | refine OW.sv (SV.storeW rfl (by first | rfl | assumption) rfl (by first | exact i64s_one _ | assumption) rfl (by first | assumption | exact (i64s_length _).trans (List.length_replicate ..) | exact (i64s_length _).trans (by assumption) | rfl | (simp; done) | (simp [*]; done) | (simp [*]; rfl)) (by first | assumption | exact (i64s_length _).trans (List.length_replicate ..) | exact (i64s_length _).trans (by assumption) | rfl | (simp; done) | (simp [*]; done) | (simp [*]; rfl))) ?_ | refine OW.sv (SV.storeAs rfl (by first | rfl | assumption) rfl (by first | exact i64s_one _ | assumption) rfl (by first | assumption | exact (i64s_length _).trans (List.length_replicate ..) | exact (i64s_length _).trans (by assumption) | rfl | (simp; done) | (simp [*]; done) | (simp [*]; rfl)) (by first | assumption | (simp; done) | (simp; omega) | omega)) ?_)) | (refine OW.rot2 ?_; (first | refine OW.sv (SV.storeW rfl (by first | rfl | assumption) rfl (by first | exact i64s_one _ | assumption) rfl (by first | assumption | exact (i64s_length _).trans (List.length_replicate ..) | exact (i64s_length _).trans (by assumption) | rfl | (simp; done) | (simp [*]; done) | (simp [*]; rfl)) (by first | assumption | exact (i64s_length _).trans (List.length_replicate ..) | exact (i64s_length _).trans (by assumption) | rfl | (simp; done) | (simp [*]; done) | (simp [*]; rfl))) ?_ | refine OW.sv (SV.storeAs rfl (by first | rfl | assumption) rfl (by first | exact i64s_one _ | assumption) rfl (by first | assumption | exact (i64s_length _).trans (List.length_replicate ..) | exact (i64s_length _).trans (by assumption) | rfl | (simp; done) | (simp [*]; done) | (simp [*]; rfl)) (by first | assumption | (simp; done) | (simp; omega) | omega)) ?_)) | (refine OW.rot3 ?_; (first | refine OW.sv (SV.storeW rfl (by first | rfl | assumption) rfl (by first | exact i64s_one _ | assumption) rfl (by first | assumption | exact (i64s_length _).trans (List.length_replicate ..) | exact (i64s_length _).trans (by assumption) | rfl | (simp; done) | (simp [*]; done) | (simp [*]; rfl)) (by first | assumption | exact (i64s_length _).trans (List.length_replicate ..) | exact (i64s_length _).trans (by assumption) | rfl | (simp; done) | (simp [*]; done) | (simp [*]; rfl))) ?_ | refine OW.sv (SV.storeAs rfl (by first | rfl | assumption) rfl (by first | exact i64s_one _ | assumption) rfl (by first | assumption | exact (i64s_length _).trans (List.length_replicate ..) | exact (i64s_length _).trans (by assumption) | rfl | (simp; done) | (simp [*]; done) | (simp [*]; rfl)) (by first | assumption | (simp; done) | (simp; omega) | omega)) ?_)) | (refine OW.rot4 ?_; (first | refine OW.sv (SV.storeW rfl (by first | rfl | assumption) rfl (by first | exact i64s_one _ | assumption) rfl (by first | assumption | exact (i64s_length _).trans (List.length_replicate ..) | exact (i64s_length _).trans (by assumption) | rfl | (simp; done) | (simp [*]; done) | (simp [*]; rfl)) (by first | assumption | exact (i64s_length _).trans (List.length_replicate ..) | exact (i64s_length _).trans (by assumption) | rfl | (simp; done) | (simp [*]; done) | (simp [*]; rfl))) ?_ | refine OW.sv (SV.storeAs rfl (by first | rfl | assumption) rfl (by first | exact i64s_one _ | assumption) rfl (by first | assumption | exact (i64s_length _).trans (List.length_replicate ..) | exact (i64s_length _).trans (by assumption) | rfl | (simp; done) | (simp [*]; done) | (simp [*]; rfl)) (by first | assumption | (simp; done) | (simp; omega) | omega)) ?_)) | (refine OW.rot5 ?_; (first | refine OW.sv (SV.storeW rfl (by first | rfl | assumption) rfl (by first | exact i64s_one _ | assumption) rfl (by first | assumption | exact (i64s_length _).trans (List.length_replicate ..) | exact (i64s_length _).trans (by assumption) | rfl | (simp; done) | (simp [*]; done) | (simp [*]; rfl)) (by first | assumption | exact (i64s_length _).trans (List.length_replicate ..) | exact (i64s_length _).trans (by assumption) | rfl | (simp; done) | (simp [*]; done) | (simp [*]; rfl))) ?_ | refine OW.sv (SV.storeAs rfl (by first | rfl | assumption) rfl (by first | exact i64s_one _ | assumption) rfl (by first | assumption | exact (i64s_length _).trans (List.length_replicate ..) | exact (i64s_length _).trans (by assumption) | rfl | (simp; done) | (simp [*]; done) | (simp [*]; rfl)) (by first | assumption | (simp; done) | (simp; omega) | omega)) ?_)) | (refine OW.rot6 ?_; (first | refine OW.sv (SV.storeW rfl (by first | rfl | assumption) rfl (by first | exact i64s_one _ | assumption) rfl (by first | assumption | exact (i64s_length _).trans (List.length_replicate ..) | exact (i64s_length _).trans (by assumption) | rfl | (simp; done) | (simp [*]; done) | (simp [*]; rfl)) (by first | assumption | exact (i64s_length _).trans (List.length_replicate ..) | exact (i64s_length _).trans (by assumption) | rfl | (simp; done) | (simp [*]; done) | (simp [*]; rfl))) ?_ | refine OW.sv (SV.storeAs rfl (by first | rfl | assumption) rfl (by first | exact i64s_one _ | assumption) rfl (by first | assumption | exact (i64s_length _).trans (List.length_replicate ..) | exact (i64s_length _).trans (by assumption) | rfl | (simp; done) | (simp [*]; done) | (simp [*]; rfl)) (by first | assumption | (simp; done) | (simp; omega) | omega)) ?_)))
    refine OW.nil ?_
    (repeat (first | refine CW.seq ?_ | refine QW.then_n ?_ | refine CW.block ?_ | refine CW.ret ?_ | refine CW.skip ?_ | refine CW.exit ?_ | refine QW.then_x ?_ | refine QW.then_r ?_ | refine QW.block_n ?_ | refine QW.block_xe ?_ | refine QW.block_xn rfl ?_ | refine QW.block_r ?_))
    obtain ⟨hpn, hpv⟩ := hpl
    (repeat (first | refine CW.seq ?_ | refine QW.then_n ?_ | refine CW.block ?_ | refine CW.ret ?_ | refine CW.skip ?_ | refine CW.exit ?_ | refine QW.then_x ?_ | refine QW.then_r ?_ | refine QW.block_n ?_ | refine QW.block_xe ?_ | refine QW.block_xn rfl ?_ | refine QW.block_r ?_))
    refine CW.region ?_
    refine OW.rv (RV.move rfl) rfl ?_
    refine OW.rv (RV.eql rfl rfl) rfl ?_
    refine OW.nil ?_
    (repeat (first | refine CW.seq ?_ | refine QW.then_n ?_ | refine CW.block ?_ | refine CW.ret ?_ | refine CW.skip ?_ | refine CW.exit ?_ | refine QW.then_x ?_ | refine QW.then_r ?_ | refine QW.block_n ?_ | refine QW.block_xe ?_ | refine QW.block_xn rfl ?_ | refine QW.block_r ?_))
    (first | refine CW.cond_t rfl ?_ | refine CW.cond_f rfl ?_ | refine CW.cond_p rfl (fun hk => ?_) (fun hk => ?_) | refine CW.cond_np rfl (fun hk => ?_) (fun hk => ?_) | refine CW.cond rfl (fun hk => ?_) (fun hk => ?_))
    (repeat (first | refine CW.seq ?_ | refine QW.then_n ?_ | refine CW.block ?_ | refine CW.ret ?_ | refine CW.skip ?_ | refine CW.exit ?_ | refine QW.then_x ?_ | refine QW.then_r ?_ | refine QW.block_n ?_ | refine QW.block_xe ?_ | refine QW.block_xn rfl ?_ | refine QW.block_r ?_))
    (repeat (first | refine CW.seq ?_ | refine QW.then_n ?_ | refine CW.block ?_ | refine CW.ret ?_ | refine CW.skip ?_ | refine CW.exit ?_ | refine QW.then_x ?_ | refine QW.then_r ?_ | refine QW.block_n ?_ | refine QW.block_xe ?_ | refine QW.block_xn rfl ?_ | refine QW.block_r ?_))
    refine CW.region ?_
    (first | refine OW.rv (RV.loadW rfl (by (repeat (first | exact List.Mem.head _ | assumption | refine List.Mem.tail _ ?_)); done) (by first | rfl | assumption) rfl rfl rfl (by first | assumption | exact (i64s_length _).trans (List.length_replicate ..) | exact (i64s_length _).trans (by assumption) | rfl | (simp; done) | (simp [*]; done) | (simp [*]; rfl))) rfl ?_ | refine OW.rv (RV.loadAo rfl (by (repeat (first | exact List.Mem.head _ | assumption | refine List.Mem.tail _ ?_)); done) (by first | rfl | assumption) rfl rfl rfl (by assumption) (by first | assumption | exact (i64s_length _).trans (List.length_replicate ..) | exact (i64s_length _).trans (by assumption) | rfl | (simp; done) | (simp [*]; done) | (simp [*]; rfl))) rfl ?_ | refine OW.rv (RV.loadAs rfl rfl rfl rfl (by (repeat (first | assumption | refine Mem.Says.cons ?_)); done) (by first | assumption | exact (i64s_length _).trans (List.length_replicate ..) | exact (i64s_length _).trans (by assumption) | rfl | (simp; done) | (simp [*]; done) | (simp [*]; rfl))) rfl ?_)
    (first | refine OW.rv (RV.loadW rfl (by (repeat (first | exact List.Mem.head _ | assumption | refine List.Mem.tail _ ?_)); done) (by first | rfl | assumption) rfl rfl rfl (by first | assumption | exact (i64s_length _).trans (List.length_replicate ..) | exact (i64s_length _).trans (by assumption) | rfl | (simp; done) | (simp [*]; done) | (simp [*]; rfl))) rfl ?_ | refine OW.rv (RV.loadAo rfl (by (repeat (first | exact List.Mem.head _ | assumption | refine List.Mem.tail _ ?_)); done) (by first | rfl | assumption) rfl rfl rfl (by assumption) (by first | assumption | exact (i64s_length _).trans (List.length_replicate ..) | exact (i64s_length _).trans (by assumption) | rfl | (simp; done) | (simp [*]; done) | (simp [*]; rfl))) rfl ?_ | refine OW.rv (RV.loadAs rfl rfl rfl rfl (by (repeat (first | assumption | refine Mem.Says.cons ?_)); done) (by first | assumption | exact (i64s_length _).trans (List.length_replicate ..) | exact (i64s_length _).trans (by assumption) | rfl | (simp; done) | (simp [*]; done) | (simp [*]; rfl))) rfl ?_)
    refine OW.call Tryd.call59 rfl (atMost_does w0 _ _ _ hpn hw) rfl (fun u hu => ?_)
    refine OW.nil ?_
    (repeat (first | refine CW.seq ?_ | refine QW.then_n ?_ | refine CW.block ?_ | refine CW.ret ?_ | refine CW.skip ?_ | refine CW.exit ?_ | refine QW.then_x ?_ | refine QW.then_r ?_ | refine QW.block_n ?_ | refine QW.block_xe ?_ | refine QW.block_xn rfl ?_ | refine QW.block_r ?_))
    have hpw : mid ^ 2 = mid * mid := by simp [Int.pow_succ]
    rw [hwv, hpv, hmv, ← hpw]
    (first | refine CW.cond_t rfl ?_ | refine CW.cond_f rfl ?_ | refine CW.cond_p rfl (fun hc => ?_) (fun hc => ?_) | refine CW.cond_np rfl (fun hc => ?_) (fun hc => ?_) | refine CW.cond rfl (fun hc => ?_) (fun hc => ?_))
    · (repeat (first | refine CW.seq ?_ | refine QW.then_n ?_ | refine CW.block ?_ | refine CW.ret ?_ | refine CW.skip ?_ | refine CW.exit ?_ | refine QW.then_x ?_ | refine QW.then_r ?_ | refine QW.block_n ?_ | refine QW.block_xe ?_ | refine QW.block_xn rfl ?_ | refine QW.block_r ?_))
      refine CW.region ?_
      refine OW.rv (RV.move rfl) rfl ?_
      refine OW.rv (RV.assign rfl) rfl ?_
      refine OW.nil ?_
      (repeat (first | refine CW.seq ?_ | refine QW.then_n ?_ | refine CW.block ?_ | refine CW.ret ?_ | refine CW.skip ?_ | refine CW.exit ?_ | refine QW.then_x ?_ | refine QW.then_r ?_ | refine QW.block_n ?_ | refine QW.block_xe ?_ | refine QW.block_xn rfl ?_ | refine QW.block_r ?_))
      exact QW.again (mid, hi) ⟨hm0, hm2, h2, hc, h4⟩ (by show (hi - mid).toNat < (hi - lo).toNat; omega) ⟨rfl, rfl, rfl, rfl, trivial⟩ (fun _ m => m.tail.tail)
    · (repeat (first | refine CW.seq ?_ | refine QW.then_n ?_ | refine CW.block ?_ | refine CW.ret ?_ | refine CW.skip ?_ | refine CW.exit ?_ | refine QW.then_x ?_ | refine QW.then_r ?_ | refine QW.block_n ?_ | refine QW.block_xe ?_ | refine QW.block_xn rfl ?_ | refine QW.block_r ?_))
      refine CW.region ?_
      refine OW.rv (RV.move rfl) rfl ?_
      refine OW.rv (RV.assign rfl) rfl ?_
      refine OW.nil ?_
      (repeat (first | refine CW.seq ?_ | refine QW.then_n ?_ | refine CW.block ?_ | refine CW.ret ?_ | refine CW.skip ?_ | refine CW.exit ?_ | refine QW.then_x ?_ | refine QW.then_r ?_ | refine QW.block_n ?_ | refine QW.block_xe ?_ | refine QW.block_xn rfl ?_ | refine QW.block_r ?_))
      exact QW.again (lo, mid) ⟨h0, hm1, by show mid ≤ 281474976710656; omega, h3, by show N < mid ^ 2; omega⟩ (by show (mid - lo).toNat < (hi - lo).toNat; omega) ⟨rfl, rfl, rfl, rfl, trivial⟩ (fun _ m => m.tail.tail)
  · have hh : hi = lo + 1 := by omega
    subst hh
    (repeat (first | refine CW.seq ?_ | refine QW.then_n ?_ | refine CW.block ?_ | refine CW.ret ?_ | refine CW.skip ?_ | refine CW.exit ?_ | refine QW.then_x ?_ | refine QW.then_r ?_ | refine QW.block_n ?_ | refine QW.block_xe ?_ | refine QW.block_xn rfl ?_ | refine QW.block_r ?_))
    refine CW.region ?_
    refine OW.rv (RV.move rfl) rfl ?_
    (first | refine OW.rv (RV.rem rfl rfl (by omega) (by omega)) rfl ?_ | refine OW.rv (RV.trem rfl rfl (by omega)) rfl ?_)
    refine OW.rv (RV.conv_i32 rfl rfl rfl) rfl ?_
    refine OW.rv (RV.assign rfl) rfl ?_
    refine OW.nil ?_
    (repeat (first | refine CW.seq ?_ | refine QW.then_n ?_ | refine CW.block ?_ | refine CW.ret ?_ | refine CW.skip ?_ | refine CW.exit ?_ | refine QW.then_x ?_ | refine QW.then_r ?_ | refine QW.block_n ?_ | refine QW.block_xe ?_ | refine QW.block_xn rfl ?_ | refine QW.block_r ?_))
    exact QW.ret1 rfl lo ⟨h0, h3, h4⟩ rfl (fun _ m => m.tail)
theorem bits3_does (w0 : World) (M : List Ent) (n : Nat) (hn : n < 65536) :
    Does Tryd.prog 53 [.int .i64 (n : Int), .int .i64 3] w0 M (τ := Int) (fun r => 0 ≤ r ∧ r ^ 3 ≤ (n : Int) * 65536 ^ (2 * 3) ∧ (n : Int) * 65536 ^ (2 * 3) < (r + 1) ^ 3) (fun r => U32 (BitVec.ofInt 32 (r % 4294967296))) (fun _ => M) := by
  have hll : zL.length = 16 := List.length_replicate ..
  have hw : Norm (zL.set (2 * 3) n) := zL_norm.set ⟨by omega, by omega⟩
  have hwv : vt (zL.set (2 * 3) n) 16 = (n : Int) * 65536 ^ (2 * 3) := by
    rw [vt_set (by rw [hll]; decide), if_pos (by decide), zL_vt, zL_getD]; omega
  have hwl : (zL.set (2 * 3) (n : Int)).length = 16 := hw.1
  refine Does.enter Tryd.func53 rfl Tryd.ntmps53 rfl ?_
  (repeat (first | refine CW.seq ?_ | refine QW.then_n ?_ | refine CW.block ?_ | refine CW.ret ?_ | refine CW.skip ?_ | refine CW.exit ?_ | refine QW.then_x ?_ | refine QW.then_r ?_ | refine QW.block_n ?_ | refine QW.block_xe ?_ | refine QW.block_xn rfl ?_ | refine QW.block_r ?_))
  refine CW.region ?_
  refine OW.rv (RV.assign rfl) rfl ?_
  refine OW.nil ?_
  (repeat (first | refine CW.seq ?_ | refine QW.then_n ?_ | refine CW.block ?_ | refine CW.ret ?_ | refine CW.skip ?_ | refine CW.exit ?_ | refine QW.then_x ?_ | refine QW.then_r ?_ | refine QW.block_n ?_ | refine QW.block_xe ?_ | refine QW.block_xn rfl ?_ | refine QW.block_r ?_))
  (repeat (first | refine CW.seq ?_ | refine QW.then_n ?_ | refine CW.block ?_ | refine CW.ret ?_ | refine CW.skip ?_ | refine CW.exit ?_ | refine QW.then_x ?_ | refine QW.then_r ?_ | refine QW.block_n ?_ | refine QW.block_xe ?_ | refine QW.block_xn rfl ?_ | refine QW.block_r ?_))
  refine CW.region ?_
  refine OW.alloc (l := i64s (List.replicate 16 0)) rfl (by rw [← i64s_rep]; rfl) rfl (fun b5 => ?_)
  refine OW.nil ?_
  (repeat (first | refine CW.seq ?_ | refine QW.then_n ?_ | refine CW.block ?_ | refine CW.ret ?_ | refine CW.skip ?_ | refine CW.exit ?_ | refine QW.then_x ?_ | refine QW.then_r ?_ | refine QW.block_n ?_ | refine QW.block_xe ?_ | refine QW.block_xn rfl ?_ | refine QW.block_r ?_))
  have hl2 : 0 + 2 * 3 < (i64s zL).length := by rw [i64s_length, hll]; decide
  (repeat (first | refine CW.seq ?_ | refine QW.then_n ?_ | refine CW.block ?_ | refine CW.ret ?_ | refine CW.skip ?_ | refine CW.exit ?_ | refine QW.then_x ?_ | refine QW.then_r ?_ | refine QW.block_n ?_ | refine QW.block_xe ?_ | refine QW.block_xn rfl ?_ | refine QW.block_r ?_))
  refine CW.region ?_
  refine OW.rv (RV.move rfl) rfl ?_
  refine OW.rv (RV.mul rfl rfl (by omega)) rfl ?_
  refine OW.rv (RV.move rfl) rfl ?_
  (first | refine OW.rv (RV.idx_a _ rfl rfl rfl rfl rfl (by omega)) rfl ?_ | refine OW.rv (RV.idx_az rfl rfl (by omega) rfl rfl (by omega)) rfl ?_)
  (first | refine OW.sv (SV.store rfl (by first | rfl | assumption) rfl rfl rfl (by first | assumption | (simp; done) | (simp; omega) | omega)) ?_ | (refine OW.rot1 ?_; refine OW.sv (SV.store rfl (by first | rfl | assumption) rfl rfl rfl (by first | assumption | (simp; done) | (simp; omega) | omega)) ?_) | (refine OW.rot2 ?_; refine OW.sv (SV.store rfl (by first | rfl | assumption) rfl rfl rfl (by first | assumption | (simp; done) | (simp; omega) | omega)) ?_) | (refine OW.rot3 ?_; refine OW.sv (SV.store rfl (by first | rfl | assumption) rfl rfl rfl (by first | assumption | (simp; done) | (simp; omega) | omega)) ?_) | (refine OW.rot4 ?_; refine OW.sv (SV.store rfl (by first | rfl | assumption) rfl rfl rfl (by first | assumption | (simp; done) | (simp; omega) | omega)) ?_))
  refine OW.nil ?_
  (repeat (first | refine CW.seq ?_ | refine QW.then_n ?_ | refine CW.block ?_ | refine CW.ret ?_ | refine CW.skip ?_ | refine CW.exit ?_ | refine QW.then_x ?_ | refine QW.then_r ?_ | refine QW.block_n ?_ | refine QW.block_xe ?_ | refine QW.block_xn rfl ?_ | refine QW.block_r ?_))
  refine CW.mem (M' := (some b5, blk (i64s (zL.set (2 * 3) n)) 90) :: M) (fun _ m => by rw [← i64s_set']; exact m) ?_
  generalize zL.set (2 * 3) (n : Int) = wl at hw hwv hwl ⊢
  have hN : (n : Int) * 65536 ^ (2 * 3) < (281474976710656 : Int) ^ 3 := by
    have e1 : (65536 : Int) * 65536 ^ (2 * 3) ≤ (281474976710656 : Int) ^ 3 := by decide
    exact Int.lt_of_lt_of_le (Int.mul_lt_mul_of_pos_right (by omega) (by decide)) e1
  generalize (n : Int) * 65536 ^ (2 * 3) = N at hwv hN ⊢
  (repeat (first | refine CW.seq ?_ | refine QW.then_n ?_ | refine CW.block ?_ | refine CW.ret ?_ | refine CW.skip ?_ | refine CW.exit ?_ | refine QW.then_x ?_ | refine QW.then_r ?_ | refine QW.block_n ?_ | refine QW.block_xe ?_ | refine QW.block_xn rfl ?_ | refine QW.block_r ?_))
  refine CW.region ?_
  refine OW.rv (RV.assign rfl) rfl ?_
  refine OW.nil ?_
  (repeat (first | refine CW.seq ?_ | refine QW.then_n ?_ | refine CW.block ?_ | refine CW.ret ?_ | refine CW.skip ?_ | refine CW.exit ?_ | refine QW.then_x ?_ | refine QW.then_r ?_ | refine QW.block_n ?_ | refine QW.block_xe ?_ | refine QW.block_xn rfl ?_ | refine QW.block_r ?_))
  (repeat (first | refine CW.seq ?_ | refine QW.then_n ?_ | refine CW.block ?_ | refine CW.ret ?_ | refine CW.skip ?_ | refine CW.exit ?_ | refine QW.then_x ?_ | refine QW.then_r ?_ | refine QW.block_n ?_ | refine QW.block_xe ?_ | refine QW.block_xn rfl ?_ | refine QW.block_r ?_))
  refine CW.region ?_
  refine OW.rv (RV.assign rfl) rfl ?_
  refine OW.nil ?_
  (repeat (first | refine CW.seq ?_ | refine QW.then_n ?_ | refine CW.block ?_ | refine CW.ret ?_ | refine CW.skip ?_ | refine CW.exit ?_ | refine QW.then_x ?_ | refine QW.then_r ?_ | refine QW.block_n ?_ | refine QW.block_xe ?_ | refine QW.block_xn rfl ?_ | refine QW.block_r ?_))
  refine CW.loop (σ := Int × Int) (fun s => 0 ≤ s.1 ∧ s.1 < s.2 ∧ s.2 ≤ 281474976710656 ∧ s.1 ^ 3 ≤ N ∧ N < s.2 ^ 3) (fun s => [(1, .int .i64 3), (5, ptr (some b5) 0), (6, .int .i64 s.1), (7, .int .i64 s.2)])
    (fun s => (some b5, blk (i64s wl) 90) :: M) (fun s => (s.2 - s.1).toNat) (0, 281474976710656) ⟨by simp, by simp, by simp, ?_, ?_⟩ ⟨rfl, rfl, rfl, rfl, trivial⟩ (fun _ m => m) ?_
  · have := (vt_bound hw.2 16).1
    show (0 : Int) ^ 3 ≤ N
    rw [← hwv]; simpa using this
  · exact hN
  rintro ⟨lo, hi⟩ ⟨h0, h1, h2, h3, h4⟩
  dsimp only at h0 h1 h2 h3 h4 ⊢
  (repeat (first | refine CW.seq ?_ | refine QW.then_n ?_ | refine CW.block ?_ | refine CW.ret ?_ | refine CW.skip ?_ | refine CW.exit ?_ | refine QW.then_x ?_ | refine QW.then_r ?_ | refine QW.block_n ?_ | refine QW.block_xe ?_ | refine QW.block_xn rfl ?_ | refine QW.block_r ?_))
  refine CW.region ?_
  refine OW.rv (RV.move rfl) rfl ?_
  refine OW.rv (RV.move rfl) rfl ?_
  refine OW.rv (RV.sub rfl rfl (by omega)) rfl ?_
  refine OW.rv (RV.gtr rfl rfl) rfl ?_
  refine OW.nil ?_
  (repeat (first | refine CW.seq ?_ | refine QW.then_n ?_ | refine CW.block ?_ | refine CW.ret ?_ | refine CW.skip ?_ | refine CW.exit ?_ | refine QW.then_x ?_ | refine QW.then_r ?_ | refine QW.block_n ?_ | refine QW.block_xe ?_ | refine QW.block_xn rfl ?_ | refine QW.block_r ?_))
  (first | refine CW.cond_t rfl ?_ | refine CW.cond_f rfl ?_ | refine CW.cond_p rfl (fun hgt => ?_) (fun hgt => ?_) | refine CW.cond_np rfl (fun hgt => ?_) (fun hgt => ?_) | refine CW.cond rfl (fun hgt => ?_) (fun hgt => ?_))
  · (repeat (first | refine CW.seq ?_ | refine QW.then_n ?_ | refine CW.block ?_ | refine CW.ret ?_ | refine CW.skip ?_ | refine CW.exit ?_ | refine QW.then_x ?_ | refine QW.then_r ?_ | refine QW.block_n ?_ | refine QW.block_xe ?_ | refine QW.block_xn rfl ?_ | refine QW.block_r ?_))
    refine CW.region ?_
    refine OW.rv (RV.move rfl) rfl ?_
    refine OW.rv (RV.move rfl) rfl ?_
    refine OW.rv (RV.add rfl rfl (by omega)) rfl ?_
    refine OW.rv (RV.quo rfl rfl (by omega) (by omega) (by omega)) rfl ?_
    refine OW.rv (RV.assign rfl) rfl ?_
    refine OW.nil ?_
    (repeat (first | refine CW.seq ?_ | refine QW.then_n ?_ | refine CW.block ?_ | refine CW.ret ?_ | refine CW.skip ?_ | refine CW.exit ?_ | refine QW.then_x ?_ | refine QW.then_r ?_ | refine QW.block_n ?_ | refine QW.block_xe ?_ | refine QW.block_xn rfl ?_ | refine QW.block_r ?_))
    have hm0 : 0 ≤ (lo + hi) / 2 := by omega
    have hm1 : lo < (lo + hi) / 2 := by omega
    have hm2 : (lo + hi) / 2 < hi := by omega
    generalize (lo + hi) / 2 = mid at hm0 hm1 hm2 ⊢
    (repeat (first | refine CW.seq ?_ | refine QW.then_n ?_ | refine CW.block ?_ | refine CW.ret ?_ | refine CW.skip ?_ | refine CW.exit ?_ | refine QW.then_x ?_ | refine QW.then_r ?_ | refine QW.block_n ?_ | refine QW.block_xe ?_ | refine QW.block_xn rfl ?_ | refine QW.block_r ?_))
    refine CW.region ?_
    refine OW.rv (RV.move rfl) rfl ?_
    (refine OW.call Tryd.call57 rfl (limbs_does w0 _ mid hm0 (by omega) (by omega)) rfl (fun ml hml => ?_); have hmll : ml.length = 16 := hml.1.1)
    refine OW.alloc (l := i64s (List.replicate 16 0)) rfl (by rw [← i64s_rep]; rfl) rfl (fun b9 => ?_)
    (first | (first | refine OW.sv (SV.storeW rfl (by first | rfl | assumption) rfl (by first | exact i64s_one _ | assumption) rfl (by first | assumption | exact (i64s_length _).trans (List.length_replicate ..) | exact (i64s_length _).trans (by assumption) | rfl | (simp; done) | (simp [*]; done) | (simp [*]; rfl)) (by first | assumption | exact (i64s_length _).trans (List.length_replicate ..) | exact (i64s_length _).trans (by assumption) | rfl | (simp; done) | (simp [*]; done) | (simp [*]; rfl))) ?_ | refine OW.sv (SV.storeAs rfl (by first | rfl | assumption) rfl (by first | exact i64s_one _ | assumption) rfl (by first | assumption | exact (i64s_length _).trans (List.length_replicate ..) | exact (i64s_length _).trans (by assumption) | rfl | (simp; done) | (simp [*]; done) | (simp [*]; rfl)) (by first | assumption | (simp; done) | (simp; omega) | omega)) ?_) | (refine OW.rot1 ?_; (first | refine OW.sv (SV.storeW rfl (by first | rfl | assumption) rfl (by first | exact i64s_one _ | assumption) rfl (by first | assumption | exact (i64s_length _).trans (List.length_replicate ..) | exact (i64s_length _).trans (by assumption) | rfl | (simp; done) | (simp [*]; done) | (simp [*]; rfl)) (by first | assumption | exact (i64s_length _).trans (List.length_replicate ..) | exact (i64s_length _).trans (by assumption) | rfl | (simp; done) | (simp [*]; done) | (simp [*]; rfl))) ?_ | refine OW.sv (SV.storeAs rfl (by first | rfl | assumption) rfl (by first | exact i64s_one _ | assumption) rfl (by first | assumption | exact (i64s_length _).trans (List.length_replicate ..) | exact (i64s_length _).trans (by assumption) | rfl | (simp; done) | (simp [*]; done) | (simp [*]; rfl)) (by first | assumption | (simp; done) | (simp; omega) | omega)) ?_)) | (refine OW.rot2 ?_; (first | refine OW.sv (SV.storeW rfl (by first | rfl | assumption) rfl (by first | exact i64s_one _ | assumption) rfl (by first | assumption | exact (i64s_length _).trans (List.length_replicate ..) | exact (i64s_length _).trans (by assumption) | rfl | (simp; done) | (simp [*]; done) | (simp [*]; rfl)) (by first | assumption | exact (i64s_length _).trans (List.length_replicate ..) | exact (i64s_length _).trans (by assumption) | rfl | (simp; done) | (simp [*]; done) | (simp [*]; rfl))) ?_ | refine OW.sv (SV.storeAs rfl (by first | rfl | assumption) rfl (by first | exact i64s_one _ | assumption) rfl (by first | assumption | exact (i64s_length _).trans (List.length_replicate ..) | exact (i64s_length _).trans (by assumption) | rfl | (simp; done) | (simp [*]; done) | (simp [*]; rfl)) (by first | assumption | (simp; done) | (simp; omega) | omega)) ?_)) | (refine OW.rot3 ?_; (first | refine OW.sv (SV.storeW rfl (by first | rfl | assumption) rfl (by first | exact i64s_one _ | assumption) rfl (by first | assumption | exact (i64s_length _).trans (List.length_replicate ..) | exact (i64s_length _).trans (by assumption) | rfl | (simp; done) | (simp [*]; done) | (simp [*]; rfl)) (by first | assumption | exact (i64s_length _).trans (List.length_replicate ..) | exact (i64s_length _).trans (by assumption) | rfl | (simp; done) | (simp [*]; done) | (simp [*]; rfl))) ?_ | refine OW.sv (SV.storeAs rfl (by first | rfl | assumption) rfl (by first | exact i64s_one _ | assumption) rfl (by first | assumption | exact (i64s_length _).trans (List.length_replicate ..) | exact (i64s_length _).trans (by assumption) | rfl | (simp; done) | (simp [*]; done) | (simp [*]; rfl)) (by first | assumption | (simp; done) | (simp; omega) | omega)) ?_)) | (refine OW.rot4 ?_; (first | refine OW.sv (SV.storeW rfl (by first | rfl | assumption) rfl (by first | exact i64s_one _ | assumption) rfl (by first | assumption | exact (i64s_length _).trans (List.length_replicate ..) | exact (i64s_length _).trans (by assumption) | rfl | (simp; done) | (simp [*]; done) | (simp [*]; rfl)) (by first | assumption | exact (i64s_length _).trans (List.length_replicate ..) | exact (i64s_length _).trans (by assumption) | rfl | (simp; done) | (simp [*]; done) | (simp [*]; rfl))) ?_ | refine OW.sv (SV.storeAs rfl (by first | rfl | assumption) rfl (by first | exact i64s_one _ | assumption) rfl (by first | assumption | exact (i64s_length _).trans (List.length_replicate ..) | exact (i64s_length _).trans (by assumption) | rfl | (simp; done) | (simp [*]; done) | (simp [*]; rfl)) (by first | assumption | (simp; done) | (simp; omega) | omega)) ?_)) | (refine OW.rot5 ?_; (first | refine OW.sv (SV.storeW rfl (by first | rfl | assumption) rfl (by first | exact i64s_one _ | assumption) rfl (by first | assumption | exact (i64s_length _).trans (List.length_replicate ..) | exact (i64s_length _).trans (by assumption) | rfl | (simp; done) | (simp [*]; done) | (simp [*]; rfl)) (by first | assumption | exact (i64s_length _).trans (List.length_replicate ..) | exact (i64s_length _).trans (by assumption) | rfl | (simp; done) | (simp [*]; done) | (simp [*]; rfl))) ?_ | refine OW.sv (SV.storeAs rfl (by first | rfl | assumption) rfl (by first | exact i64s_one _ | assumption) rfl (by first | assumption | exact (i64s_length _).trans (List.length_replicate ..) | exact (i64s_length _).trans (by assumption) | rfl | (simp; done) | (simp [*]; done) | (simp [*]; rfl)) (by first | assumption | (simp; done) | (simp; omega) | omega)) ?_)) | (refine OW.rot6 ?_; (first | refine OW.sv (SV.storeW rfl (by first | rfl | assumption) rfl (by first | exact i64s_one _ | assumption) rfl (by first | assumption | exact (i64s_length _).trans (List.length_replicate ..) | exact (i64s_length _).trans (by assumption) | rfl | (simp; done) | (simp [*]; done) | (simp [*]; rfl)) (by first | assumption | exact (i64s_length _).trans (List.length_replicate ..) | exact (i64s_length _).trans (by assumption) | rfl | (simp; done) | (simp [*]; done) | (simp [*]; rfl))) ?_ | refine OW.sv (SV.storeAs rfl (by first | rfl | assumption) rfl (by first | exact i64s_one _ | assumption) rfl (by first | assumption | exact (i64s_length _).trans (List.length_replicate ..) | exact (i64s_length _).trans (by assumption) | rfl | (simp; done) | (simp [*]; done) | (simp [*]; rfl)) (by first | assumption | (simp; done) | (simp; omega) | omega)) ?_)))
    refine OW.nil ?_
    (repeat (first | refine CW.seq ?_ | refine QW.then_n ?_ | refine CW.block ?_ | refine CW.ret ?_ | refine CW.skip ?_ | refine CW.exit ?_ | refine QW.then_x ?_ | refine QW.then_r ?_ | refine QW.block_n ?_ | refine QW.block_xe ?_ | refine QW.block_xn rfl ?_ | refine QW.block_r ?_))
    obtain ⟨hmn, hmv⟩ := hml
    have hm8 : ∀ k, 8 ≤ k → ml.getD k 0 = 0 := small_limbs (i := 8) hmn (by decide) (by rw [hmv]; omega)
    (repeat (first | refine CW.seq ?_ | refine QW.then_n ?_ | refine CW.block ?_ | refine CW.ret ?_ | refine CW.skip ?_ | refine CW.exit ?_ | refine QW.then_x ?_ | refine QW.then_r ?_ | refine QW.block_n ?_ | refine QW.block_xe ?_ | refine QW.block_xn rfl ?_ | refine QW.block_r ?_))
    refine CW.region ?_
    (first | refine OW.rv (RV.loadW rfl (by (repeat (first | exact List.Mem.head _ | assumption | refine List.Mem.tail _ ?_)); done) (by first | rfl | assumption) rfl rfl rfl (by first | assumption | exact (i64s_length _).trans (List.length_replicate ..) | exact (i64s_length _).trans (by assumption) | rfl | (simp; done) | (simp [*]; done) | (simp [*]; rfl))) rfl ?_ | refine OW.rv (RV.loadAo rfl (by (repeat (first | exact List.Mem.head _ | assumption | refine List.Mem.tail _ ?_)); done) (by first | rfl | assumption) rfl rfl rfl (by assumption) (by first | assumption | exact (i64s_length _).trans (List.length_replicate ..) | exact (i64s_length _).trans (by assumption) | rfl | (simp; done) | (simp [*]; done) | (simp [*]; rfl))) rfl ?_ | refine OW.rv (RV.loadAs rfl rfl rfl rfl (by (repeat (first | assumption | refine Mem.Says.cons ?_)); done) (by first | assumption | exact (i64s_length _).trans (List.length_replicate ..) | exact (i64s_length _).trans (by assumption) | rfl | (simp; done) | (simp [*]; done) | (simp [*]; rfl))) rfl ?_)
    (first | refine OW.rv (RV.loadW rfl (by (repeat (first | exact List.Mem.head _ | assumption | refine List.Mem.tail _ ?_)); done) (by first | rfl | assumption) rfl rfl rfl (by first | assumption | exact (i64s_length _).trans (List.length_replicate ..) | exact (i64s_length _).trans (by assumption) | rfl | (simp; done) | (simp [*]; done) | (simp [*]; rfl))) rfl ?_ | refine OW.rv (RV.loadAo rfl (by (repeat (first | exact List.Mem.head _ | assumption | refine List.Mem.tail _ ?_)); done) (by first | rfl | assumption) rfl rfl rfl (by assumption) (by first | assumption | exact (i64s_length _).trans (List.length_replicate ..) | exact (i64s_length _).trans (by assumption) | rfl | (simp; done) | (simp [*]; done) | (simp [*]; rfl))) rfl ?_ | refine OW.rv (RV.loadAs rfl rfl rfl rfl (by (repeat (first | assumption | refine Mem.Says.cons ?_)); done) (by first | assumption | exact (i64s_length _).trans (List.length_replicate ..) | exact (i64s_length _).trans (by assumption) | rfl | (simp; done) | (simp [*]; done) | (simp [*]; rfl))) rfl ?_)
    (refine OW.call Tryd.call58 rfl (product_does w0 _ ml ml hmn hmn hm8 hm8) rfl (fun pl hpl => ?_); have hpll : pl.length = 16 := hpl.1.1)
    refine OW.alloc (l := i64s (List.replicate 16 0)) rfl (by rw [← i64s_rep]; rfl) rfl (fun b10 => ?_)
    (first | (first | refine OW.sv (SV.storeW rfl (by first | rfl | assumption) rfl (by first | exact i64s_one _ | assumption) rfl (by first | assumption | exact (i64s_length _).trans (List.length_replicate ..) | exact (i64s_length _).trans (by assumption) | rfl | (simp; done) | (simp [*]; done) | (simp [*]; rfl)) (by first | assumption | exact (i64s_length _).trans (List.length_replicate ..) | exact (i64s_length _).trans (by assumption) | rfl | (simp; done) | (simp [*]; done) | (simp [*]; rfl))) ?_ | refine OW.sv (SV.storeAs rfl (by first | rfl | assumption) rfl (by first | exact i64s_one _ | assumption) rfl (by first | assumption | exact (i64s_length _).trans (List.length_replicate ..) | exact (i64s_length _).trans (by assumption) | rfl | (simp; done) | (simp [*]; done) | (simp [*]; rfl)) (by first | assumption | (simp; done) | (simp; omega) | omega)) ?_) | (refine OW.rot1 ?_; (first | refine OW.sv (SV.storeW rfl (by first | rfl | assumption) rfl (by first | exact i64s_one _ | assumption) rfl (by first | assumption | exact (i64s_length _).trans (List.length_replicate ..) | exact (i64s_length _).trans (by assumption) | rfl | (simp; done) | (simp [*]; done) | (simp [*]; rfl)) (by first | assumption | exact (i64s_length _).trans (List.length_replicate ..) | exact (i64s_length _).trans (by assumption) | rfl | (simp; done) | (simp [*]; done) | (simp [*]; rfl))) ?_ | refine OW.sv (SV.storeAs rfl (by first | rfl | assumption) rfl (by first | exact i64s_one _ | assumption) rfl (by first | assumption | exact (i64s_length _).trans (List.length_replicate ..) | exact (i64s_length _).trans (by assumption) | rfl | (simp; done) | (simp [*]; done) | (simp [*]; rfl)) (by first | assumption | (simp; done) | (simp; omega) | omega)) ?_)) | (refine OW.rot2 ?_; (first | refine OW.sv (SV.storeW rfl (by first | rfl | assumption) rfl (by first | exact i64s_one _ | assumption) rfl (by first | assumption | exact (i64s_length _).trans (List.length_replicate ..) | exact (i64s_length _).trans (by assumption) | rfl | (simp; done) | (simp [*]; done) | (simp [*]; rfl)) (by first | assumption | exact (i64s_length _).trans (List.length_replicate ..) | exact (i64s_length _).trans (by assumption) | rfl | (simp; done) | (simp [*]; done) | (simp [*]; rfl))) ?_ | refine OW.sv (SV.storeAs rfl (by first | rfl | assumption) rfl (by first | exact i64s_one _ | assumption) rfl (by first | assumption | exact (i64s_length _).trans (List.length_replicate ..) | exact (i64s_length _).trans (by assumption) | rfl | (simp; done) | (simp [*]; done) | (simp [*]; rfl)) (by first | assumption | (simp; done) | (simp; omega) | omega)) ?_)) | (refine OW.rot3 ?_; (first | refine OW.sv (SV.storeW rfl (by first | rfl | assumption) rfl (by first | exact i64s_one _ | assumption) rfl (by first | assumption | exact (i64s_length _).trans (List.length_replicate ..) | exact (i64s_length _).trans (by assumption) | rfl | (simp; done) | (simp [*]; done) | (simp [*]; rfl)) (by first | assumption | exact (i64s_length _).trans (List.length_replicate ..) | exact (i64s_length _).trans (by assumption) | rfl | (simp; done) | (simp [*]; done) | (simp [*]; rfl))) ?_ | refine OW.sv (SV.storeAs rfl (by first | rfl | assumption) rfl (by first | exact i64s_one _ | assumption) rfl (by first | assumption | exact (i64s_length _).trans (List.length_replicate ..) | exact (i64s_length _).trans (by assumption) | rfl | (simp; done) | (simp [*]; done) | (simp [*]; rfl)) (by first | assumption | (simp; done) | (simp; omega) | omega)) ?_)) | (refine OW.rot4 ?_; (first | refine OW.sv (SV.storeW rfl (by first | rfl | assumption) rfl (by first | exact i64s_one _ | assumption) rfl (by first | assumption | exact (i64s_length _).trans (List.length_replicate ..) | exact (i64s_length _).trans (by assumption) | rfl | (simp; done) | (simp [*]; done) | (simp [*]; rfl)) (by first | assumption | exact (i64s_length _).trans (List.length_replicate ..) | exact (i64s_length _).trans (by assumption) | rfl | (simp; done) | (simp [*]; done) | (simp [*]; rfl))) ?_ | refine OW.sv (SV.storeAs rfl (by first | rfl | assumption) rfl (by first | exact i64s_one _ | assumption) rfl (by first | assumption | exact (i64s_length _).trans (List.length_replicate ..) | exact (i64s_length _).trans (by assumption) | rfl | (simp; done) | (simp [*]; done) | (simp [*]; rfl)) (by first | assumption | (simp; done) | (simp; omega) | omega)) ?_)) | (refine OW.rot5 ?_; (first | refine OW.sv (SV.storeW rfl (by first | rfl | assumption) rfl (by first | exact i64s_one _ | assumption) rfl (by first | assumption | exact (i64s_length _).trans (List.length_replicate ..) | exact (i64s_length _).trans (by assumption) | rfl | (simp; done) | (simp [*]; done) | (simp [*]; rfl)) (by first | assumption | exact (i64s_length _).trans (List.length_replicate ..) | exact (i64s_length _).trans (by assumption) | rfl | (simp; done) | (simp [*]; done) | (simp [*]; rfl))) ?_ | refine OW.sv (SV.storeAs rfl (by first | rfl | assumption) rfl (by first | exact i64s_one _ | assumption) rfl (by first | assumption | exact (i64s_length _).trans (List.length_replicate ..) | exact (i64s_length _).trans (by assumption) | rfl | (simp; done) | (simp [*]; done) | (simp [*]; rfl)) (by first | assumption | (simp; done) | (simp; omega) | omega)) ?_)) | (refine OW.rot6 ?_; (first | refine OW.sv (SV.storeW rfl (by first | rfl | assumption) rfl (by first | exact i64s_one _ | assumption) rfl (by first | assumption | exact (i64s_length _).trans (List.length_replicate ..) | exact (i64s_length _).trans (by assumption) | rfl | (simp; done) | (simp [*]; done) | (simp [*]; rfl)) (by first | assumption | exact (i64s_length _).trans (List.length_replicate ..) | exact (i64s_length _).trans (by assumption) | rfl | (simp; done) | (simp [*]; done) | (simp [*]; rfl))) ?_ | refine OW.sv (SV.storeAs rfl (by first | rfl | assumption) rfl (by first | exact i64s_one _ | assumption) rfl (by first | assumption | exact (i64s_length _).trans (List.length_replicate ..) | exact (i64s_length _).trans (by assumption) | rfl | (simp; done) | (simp [*]; done) | (simp [*]; rfl)) (by first | assumption | (simp; done) | (simp; omega) | omega)) ?_)))
    refine OW.nil ?_
    (repeat (first | refine CW.seq ?_ | refine QW.then_n ?_ | refine CW.block ?_ | refine CW.ret ?_ | refine CW.skip ?_ | refine CW.exit ?_ | refine QW.then_x ?_ | refine QW.then_r ?_ | refine QW.block_n ?_ | refine QW.block_xe ?_ | refine QW.block_xn rfl ?_ | refine QW.block_r ?_))
    obtain ⟨hpn, hpv⟩ := hpl
    (repeat (first | refine CW.seq ?_ | refine QW.then_n ?_ | refine CW.block ?_ | refine CW.ret ?_ | refine CW.skip ?_ | refine CW.exit ?_ | refine QW.then_x ?_ | refine QW.then_r ?_ | refine QW.block_n ?_ | refine QW.block_xe ?_ | refine QW.block_xn rfl ?_ | refine QW.block_r ?_))
    refine CW.region ?_
    refine OW.rv (RV.move rfl) rfl ?_
    refine OW.rv (RV.eql rfl rfl) rfl ?_
    refine OW.nil ?_
    (repeat (first | refine CW.seq ?_ | refine QW.then_n ?_ | refine CW.block ?_ | refine CW.ret ?_ | refine CW.skip ?_ | refine CW.exit ?_ | refine QW.then_x ?_ | refine QW.then_r ?_ | refine QW.block_n ?_ | refine QW.block_xe ?_ | refine QW.block_xn rfl ?_ | refine QW.block_r ?_))
    (first | refine CW.cond_t rfl ?_ | refine CW.cond_f rfl ?_ | refine CW.cond_p rfl (fun hk => ?_) (fun hk => ?_) | refine CW.cond_np rfl (fun hk => ?_) (fun hk => ?_) | refine CW.cond rfl (fun hk => ?_) (fun hk => ?_))
    have hp8 : ∀ k, 8 ≤ k → pl.getD k 0 = 0 := small_limbs (i := 8) hpn (by decide) (by
      rw [hpv, hmv]
      have := Int.mul_le_mul (show mid ≤ 281474976710656 by omega) (show mid ≤ 281474976710656 by omega) hm0 (by decide)
      omega)
    (repeat (first | refine CW.seq ?_ | refine QW.then_n ?_ | refine CW.block ?_ | refine CW.ret ?_ | refine CW.skip ?_ | refine CW.exit ?_ | refine QW.then_x ?_ | refine QW.then_r ?_ | refine QW.block_n ?_ | refine QW.block_xe ?_ | refine QW.block_xn rfl ?_ | refine QW.block_r ?_))
    refine CW.region ?_
    (first | refine OW.rv (RV.loadW rfl (by (repeat (first | exact List.Mem.head _ | assumption | refine List.Mem.tail _ ?_)); done) (by first | rfl | assumption) rfl rfl rfl (by first | assumption | exact (i64s_length _).trans (List.length_replicate ..) | exact (i64s_length _).trans (by assumption) | rfl | (simp; done) | (simp [*]; done) | (simp [*]; rfl))) rfl ?_ | refine OW.rv (RV.loadAo rfl (by (repeat (first | exact List.Mem.head _ | assumption | refine List.Mem.tail _ ?_)); done) (by first | rfl | assumption) rfl rfl rfl (by assumption) (by first | assumption | exact (i64s_length _).trans (List.length_replicate ..) | exact (i64s_length _).trans (by assumption) | rfl | (simp; done) | (simp [*]; done) | (simp [*]; rfl))) rfl ?_ | refine OW.rv (RV.loadAs rfl rfl rfl rfl (by (repeat (first | assumption | refine Mem.Says.cons ?_)); done) (by first | assumption | exact (i64s_length _).trans (List.length_replicate ..) | exact (i64s_length _).trans (by assumption) | rfl | (simp; done) | (simp [*]; done) | (simp [*]; rfl))) rfl ?_)
    (first | refine OW.rv (RV.loadW rfl (by (repeat (first | exact List.Mem.head _ | assumption | refine List.Mem.tail _ ?_)); done) (by first | rfl | assumption) rfl rfl rfl (by first | assumption | exact (i64s_length _).trans (List.length_replicate ..) | exact (i64s_length _).trans (by assumption) | rfl | (simp; done) | (simp [*]; done) | (simp [*]; rfl))) rfl ?_ | refine OW.rv (RV.loadAo rfl (by (repeat (first | exact List.Mem.head _ | assumption | refine List.Mem.tail _ ?_)); done) (by first | rfl | assumption) rfl rfl rfl (by assumption) (by first | assumption | exact (i64s_length _).trans (List.length_replicate ..) | exact (i64s_length _).trans (by assumption) | rfl | (simp; done) | (simp [*]; done) | (simp [*]; rfl))) rfl ?_ | refine OW.rv (RV.loadAs rfl rfl rfl rfl (by (repeat (first | assumption | refine Mem.Says.cons ?_)); done) (by first | assumption | exact (i64s_length _).trans (List.length_replicate ..) | exact (i64s_length _).trans (by assumption) | rfl | (simp; done) | (simp [*]; done) | (simp [*]; rfl))) rfl ?_)
    (refine OW.call Tryd.call58 rfl (product_does w0 _ pl ml hpn hmn hp8 hm8) rfl (fun ql hql => ?_); have hqll : ql.length = 16 := hql.1.1)
    (first | (first | refine OW.sv (SV.storeW rfl (by first | rfl | assumption) rfl (by first | exact i64s_one _ | assumption) rfl (by first | assumption | exact (i64s_length _).trans (List.length_replicate ..) | exact (i64s_length _).trans (by assumption) | rfl | (simp; done) | (simp [*]; done) | (simp [*]; rfl)) (by first | assumption | exact (i64s_length _).trans (List.length_replicate ..) | exact (i64s_length _).trans (by assumption) | rfl | (simp; done) | (simp [*]; done) | (simp [*]; rfl))) ?_ | refine OW.sv (SV.storeAs rfl (by first | rfl | assumption) rfl (by first | exact i64s_one _ | assumption) rfl (by first | assumption | exact (i64s_length _).trans (List.length_replicate ..) | exact (i64s_length _).trans (by assumption) | rfl | (simp; done) | (simp [*]; done) | (simp [*]; rfl)) (by first | assumption | (simp; done) | (simp; omega) | omega)) ?_) | (refine OW.rot1 ?_; (first | refine OW.sv (SV.storeW rfl (by first | rfl | assumption) rfl (by first | exact i64s_one _ | assumption) rfl (by first | assumption | exact (i64s_length _).trans (List.length_replicate ..) | exact (i64s_length _).trans (by assumption) | rfl | (simp; done) | (simp [*]; done) | (simp [*]; rfl)) (by first | assumption | exact (i64s_length _).trans (List.length_replicate ..) | exact (i64s_length _).trans (by assumption) | rfl | (simp; done) | (simp [*]; done) | (simp [*]; rfl))) ?_ | refine OW.sv (SV.storeAs rfl (by first | rfl | assumption) rfl (by first | exact i64s_one _ | assumption) rfl (by first | assumption | exact (i64s_length _).trans (List.length_replicate ..) | exact (i64s_length _).trans (by assumption) | rfl | (simp; done) | (simp [*]; done) | (simp [*]; rfl)) (by first | assumption | (simp; done) | (simp; omega) | omega)) ?_)) | (refine OW.rot2 ?_; (first | refine OW.sv (SV.storeW rfl (by first | rfl | assumption) rfl (by first | exact i64s_one _ | assumption) rfl (by first | assumption | exact (i64s_length _).trans (List.length_replicate ..) | exact (i64s_length _).trans (by assumption) | rfl | (simp; done) | (simp [*]; done) | (simp [*]; rfl)) (by first | assumption | exact (i64s_length _).trans (List.length_replicate ..) | exact (i64s_length _).trans (by assumption) | rfl | (simp; done) | (simp [*]; done) | (simp [*]; rfl))) ?_ | refine OW.sv (SV.storeAs rfl (by first | rfl | assumption) rfl (by first | exact i64s_one _ | assumption) rfl (by first | assumption | exact (i64s_length _).trans (List.length_replicate ..) | exact (i64s_length _).trans (by assumption) | rfl | (simp; done) | (simp [*]; done) | (simp [*]; rfl)) (by first | assumption | (simp; done) | (simp; omega) | omega)) ?_)) | (refine OW.rot3 ?_; (first | refine OW.sv (SV.storeW rfl (by first | rfl | assumption) rfl (by first | exact i64s_one _ | assumption) rfl (by first | assumption | exact (i64s_length _).trans (List.length_replicate ..) | exact (i64s_length _).trans (by assumption) | rfl | (simp; done) | (simp [*]; done) | (simp [*]; rfl)) (by first | assumption | exact (i64s_length _).trans (List.length_replicate ..) | exact (i64s_length _).trans (by assumption) | rfl | (simp; done) | (simp [*]; done) | (simp [*]; rfl))) ?_ | refine OW.sv (SV.storeAs rfl (by first | rfl | assumption) rfl (by first | exact i64s_one _ | assumption) rfl (by first | assumption | exact (i64s_length _).trans (List.length_replicate ..) | exact (i64s_length _).trans (by assumption) | rfl | (simp; done) | (simp [*]; done) | (simp [*]; rfl)) (by first | assumption | (simp; done) | (simp; omega) | omega)) ?_)) | (refine OW.rot4 ?_; (first | refine OW.sv (SV.storeW rfl (by first | rfl | assumption) rfl (by first | exact i64s_one _ | assumption) rfl (by first | assumption | exact (i64s_length _).trans (List.length_replicate ..) | exact (i64s_length _).trans (by assumption) | rfl | (simp; done) | (simp [*]; done) | (simp [*]; rfl)) (by first | assumption | exact (i64s_length _).trans (List.length_replicate ..) | exact (i64s_length _).trans (by assumption) | rfl | (simp; done) | (simp [*]; done) | (simp [*]; rfl))) ?_ | refine OW.sv (SV.storeAs rfl (by first | rfl | assumption) rfl (by first | exact i64s_one _ | assumption) rfl (by first | assumption | exact (i64s_length _).trans (List.length_replicate ..) | exact (i64s_length _).trans (by assumption) | rfl | (simp; done) | (simp [*]; done) | (simp [*]; rfl)) (by first | assumption | (simp; done) | (simp; omega) | omega)) ?_)) | (refine OW.rot5 ?_; (first | refine OW.sv (SV.storeW rfl (by first | rfl | assumption) rfl (by first | exact i64s_one _ | assumption) rfl (by first | assumption | exact (i64s_length _).trans (List.length_replicate ..) | exact (i64s_length _).trans (by assumption) | rfl | (simp; done) | (simp [*]; done) | (simp [*]; rfl)) (by first | assumption | exact (i64s_length _).trans (List.length_replicate ..) | exact (i64s_length _).trans (by assumption) | rfl | (simp; done) | (simp [*]; done) | (simp [*]; rfl))) ?_ | refine OW.sv (SV.storeAs rfl (by first | rfl | assumption) rfl (by first | exact i64s_one _ | assumption) rfl (by first | assumption | exact (i64s_length _).trans (List.length_replicate ..) | exact (i64s_length _).trans (by assumption) | rfl | (simp; done) | (simp [*]; done) | (simp [*]; rfl)) (by first | assumption | (simp; done) | (simp; omega) | omega)) ?_)) | (refine OW.rot6 ?_; (first | refine OW.sv (SV.storeW rfl (by first | rfl | assumption) rfl (by first | exact i64s_one _ | assumption) rfl (by first | assumption | exact (i64s_length _).trans (List.length_replicate ..) | exact (i64s_length _).trans (by assumption) | rfl | (simp; done) | (simp [*]; done) | (simp [*]; rfl)) (by first | assumption | exact (i64s_length _).trans (List.length_replicate ..) | exact (i64s_length _).trans (by assumption) | rfl | (simp; done) | (simp [*]; done) | (simp [*]; rfl))) ?_ | refine OW.sv (SV.storeAs rfl (by first | rfl | assumption) rfl (by first | exact i64s_one _ | assumption) rfl (by first | assumption | exact (i64s_length _).trans (List.length_replicate ..) | exact (i64s_length _).trans (by assumption) | rfl | (simp; done) | (simp [*]; done) | (simp [*]; rfl)) (by first | assumption | (simp; done) | (simp; omega) | omega)) ?_)))
    refine OW.nil ?_
    (repeat (first | refine CW.seq ?_ | refine QW.then_n ?_ | refine CW.block ?_ | refine CW.ret ?_ | refine CW.skip ?_ | refine CW.exit ?_ | refine QW.then_x ?_ | refine QW.then_r ?_ | refine QW.block_n ?_ | refine QW.block_xe ?_ | refine QW.block_xn rfl ?_ | refine QW.block_r ?_))
    obtain ⟨hqn, hqv⟩ := hql
    (repeat (first | refine CW.seq ?_ | refine QW.then_n ?_ | refine CW.block ?_ | refine CW.ret ?_ | refine CW.skip ?_ | refine CW.exit ?_ | refine QW.then_x ?_ | refine QW.then_r ?_ | refine QW.block_n ?_ | refine QW.block_xe ?_ | refine QW.block_xn rfl ?_ | refine QW.block_r ?_))
    refine CW.region ?_
    (first | refine OW.rv (RV.loadW rfl (by (repeat (first | exact List.Mem.head _ | assumption | refine List.Mem.tail _ ?_)); done) (by first | rfl | assumption) rfl rfl rfl (by first | assumption | exact (i64s_length _).trans (List.length_replicate ..) | exact (i64s_length _).trans (by assumption) | rfl | (simp; done) | (simp [*]; done) | (simp [*]; rfl))) rfl ?_ | refine OW.rv (RV.loadAo rfl (by (repeat (first | exact List.Mem.head _ | assumption | refine List.Mem.tail _ ?_)); done) (by first | rfl | assumption) rfl rfl rfl (by assumption) (by first | assumption | exact (i64s_length _).trans (List.length_replicate ..) | exact (i64s_length _).trans (by assumption) | rfl | (simp; done) | (simp [*]; done) | (simp [*]; rfl))) rfl ?_ | refine OW.rv (RV.loadAs rfl rfl rfl rfl (by (repeat (first | assumption | refine Mem.Says.cons ?_)); done) (by first | assumption | exact (i64s_length _).trans (List.length_replicate ..) | exact (i64s_length _).trans (by assumption) | rfl | (simp; done) | (simp [*]; done) | (simp [*]; rfl))) rfl ?_)
    (first | refine OW.rv (RV.loadW rfl (by (repeat (first | exact List.Mem.head _ | assumption | refine List.Mem.tail _ ?_)); done) (by first | rfl | assumption) rfl rfl rfl (by first | assumption | exact (i64s_length _).trans (List.length_replicate ..) | exact (i64s_length _).trans (by assumption) | rfl | (simp; done) | (simp [*]; done) | (simp [*]; rfl))) rfl ?_ | refine OW.rv (RV.loadAo rfl (by (repeat (first | exact List.Mem.head _ | assumption | refine List.Mem.tail _ ?_)); done) (by first | rfl | assumption) rfl rfl rfl (by assumption) (by first | assumption | exact (i64s_length _).trans (List.length_replicate ..) | exact (i64s_length _).trans (by assumption) | rfl | (simp; done) | (simp [*]; done) | (simp [*]; rfl))) rfl ?_ | refine OW.rv (RV.loadAs rfl rfl rfl rfl (by (repeat (first | assumption | refine Mem.Says.cons ?_)); done) (by first | assumption | exact (i64s_length _).trans (List.length_replicate ..) | exact (i64s_length _).trans (by assumption) | rfl | (simp; done) | (simp [*]; done) | (simp [*]; rfl))) rfl ?_)
    refine OW.call Tryd.call59 rfl (atMost_does w0 _ _ _ hqn hw) rfl (fun u hu => ?_)
    refine OW.nil ?_
    (repeat (first | refine CW.seq ?_ | refine QW.then_n ?_ | refine CW.block ?_ | refine CW.ret ?_ | refine CW.skip ?_ | refine CW.exit ?_ | refine QW.then_x ?_ | refine QW.then_r ?_ | refine QW.block_n ?_ | refine QW.block_xe ?_ | refine QW.block_xn rfl ?_ | refine QW.block_r ?_))
    have hpw : mid ^ 3 = mid * mid * mid := by simp [Int.pow_succ]
    rw [hwv, hqv, hpv, hmv, ← hpw]
    (first | refine CW.cond_t rfl ?_ | refine CW.cond_f rfl ?_ | refine CW.cond_p rfl (fun hc => ?_) (fun hc => ?_) | refine CW.cond_np rfl (fun hc => ?_) (fun hc => ?_) | refine CW.cond rfl (fun hc => ?_) (fun hc => ?_))
    · (repeat (first | refine CW.seq ?_ | refine QW.then_n ?_ | refine CW.block ?_ | refine CW.ret ?_ | refine CW.skip ?_ | refine CW.exit ?_ | refine QW.then_x ?_ | refine QW.then_r ?_ | refine QW.block_n ?_ | refine QW.block_xe ?_ | refine QW.block_xn rfl ?_ | refine QW.block_r ?_))
      refine CW.region ?_
      refine OW.rv (RV.move rfl) rfl ?_
      refine OW.rv (RV.assign rfl) rfl ?_
      refine OW.nil ?_
      (repeat (first | refine CW.seq ?_ | refine QW.then_n ?_ | refine CW.block ?_ | refine CW.ret ?_ | refine CW.skip ?_ | refine CW.exit ?_ | refine QW.then_x ?_ | refine QW.then_r ?_ | refine QW.block_n ?_ | refine QW.block_xe ?_ | refine QW.block_xn rfl ?_ | refine QW.block_r ?_))
      exact QW.again (mid, hi) ⟨hm0, hm2, h2, hc, h4⟩ (by show (hi - mid).toNat < (hi - lo).toNat; omega) ⟨rfl, rfl, rfl, rfl, trivial⟩ (fun _ m => m.tail.tail)
    · (repeat (first | refine CW.seq ?_ | refine QW.then_n ?_ | refine CW.block ?_ | refine CW.ret ?_ | refine CW.skip ?_ | refine CW.exit ?_ | refine QW.then_x ?_ | refine QW.then_r ?_ | refine QW.block_n ?_ | refine QW.block_xe ?_ | refine QW.block_xn rfl ?_ | refine QW.block_r ?_))
      refine CW.region ?_
      refine OW.rv (RV.move rfl) rfl ?_
      refine OW.rv (RV.assign rfl) rfl ?_
      refine OW.nil ?_
      (repeat (first | refine CW.seq ?_ | refine QW.then_n ?_ | refine CW.block ?_ | refine CW.ret ?_ | refine CW.skip ?_ | refine CW.exit ?_ | refine QW.then_x ?_ | refine QW.then_r ?_ | refine QW.block_n ?_ | refine QW.block_xe ?_ | refine QW.block_xn rfl ?_ | refine QW.block_r ?_))
      exact QW.again (lo, mid) ⟨h0, hm1, by show mid ≤ 281474976710656; omega, h3, by show N < mid ^ 3; omega⟩ (by show (mid - lo).toNat < (hi - lo).toNat; omega) ⟨rfl, rfl, rfl, rfl, trivial⟩ (fun _ m => m.tail.tail)
  · have hh : hi = lo + 1 := by omega
    subst hh
    (repeat (first | refine CW.seq ?_ | refine QW.then_n ?_ | refine CW.block ?_ | refine CW.ret ?_ | refine CW.skip ?_ | refine CW.exit ?_ | refine QW.then_x ?_ | refine QW.then_r ?_ | refine QW.block_n ?_ | refine QW.block_xe ?_ | refine QW.block_xn rfl ?_ | refine QW.block_r ?_))
    refine CW.region ?_
    refine OW.rv (RV.move rfl) rfl ?_
    (first | refine OW.rv (RV.rem rfl rfl (by omega) (by omega)) rfl ?_ | refine OW.rv (RV.trem rfl rfl (by omega)) rfl ?_)
    refine OW.rv (RV.conv_i32 rfl rfl rfl) rfl ?_
    refine OW.rv (RV.assign rfl) rfl ?_
    refine OW.nil ?_
    (repeat (first | refine CW.seq ?_ | refine QW.then_n ?_ | refine CW.block ?_ | refine CW.ret ?_ | refine CW.skip ?_ | refine CW.exit ?_ | refine QW.then_x ?_ | refine QW.then_r ?_ | refine QW.block_n ?_ | refine QW.block_xe ?_ | refine QW.block_xn rfl ?_ | refine QW.block_r ?_))
    exact QW.ret1 rfl lo ⟨h0, h3, h4⟩ rfl (fun _ m => m.tail)
theorem root_val2 {n : Nat} {r : Int} (hr : 0 ≤ r ∧ r ^ 2 ≤ (n : Int) * 65536 ^ (2 * 2) ∧ (n : Int) * 65536 ^ (2 * 2) < (r + 1) ^ 2) (h1 : rt 2 n ^ 2 ≤ n * 2 ^ (32 * 2)) (h2 : n * 2 ^ (32 * 2) < (rt 2 n + 1) ^ 2) : BitVec.ofInt 32 (r % 4294967296) = rootW 2 n := by
  obtain ⟨a, b, c⟩ := hr
  obtain ⟨m, rfl⟩ : ∃ m : Nat, r = m := ⟨r.toNat, by omega⟩
  have e : (n : Int) * 65536 ^ (2 * 2) = ((n * 2 ^ (32 * 2) : Nat) : Int) := by
    rw [Int.natCast_mul]; congr 1
  rw [e] at b c
  have b' : m ^ 2 ≤ n * 2 ^ (32 * 2) := by rw [← Int.natCast_pow] at b; exact Int.ofNat_le.1 b
  have c' : n * 2 ^ (32 * 2) < (m + 1) ^ 2 := by
    have e2 : ((m : Int) + 1) = ((m + 1 : Nat) : Int) := by omega
    rw [e2, ← Int.natCast_pow] at c; exact Int.ofNat_lt.1 c
  have hm : m = rt 2 n := Nat.le_antisymm (root_unique b' h2) (root_unique h1 c')
  subst hm
  unfold rootW
  apply BitVec.eq_of_toNat_eq
  rw [BitVec.toNat_ofInt, BitVec.toNat_ofNat]
  omega
theorem roots2_does (w0 : World) (M : List Ent) (top : Nat) (count : Nat) (h2 : 2 ≤ top) (h4 : top ≤ 399) (hlen : (primesTo top).length = count) (hcert : certB 2 top = true) :
    Does Tryd.prog 40 [.int .i64 (count : Int), .int .i64 2] w0 M (τ := Option Nat × List Value × Nat) (fun q => (u32s ((primesTo top).map (rootW 2)) ++ q.2.1).length = q.2.2 ∧ (q.1 = none → q.2.2 = 0)) (fun q => sl q.1 0 count q.2.2) (fun q => (q.1, blk (u32s ((primesTo top).map (rootW 2)) ++ q.2.1) 22) :: M) := by
  have hmono : ∀ n, n ≤ top → (primesTo n).length ≤ count ∧ ((primesTo n).length = count → primesTo n = primesTo top) := fun n hn => by
    obtain ⟨ext, he⟩ := primesTo_prefix hn
    rw [← hlen, he]
    refine ⟨by simp, fun h => ?_⟩
    rw [List.length_append] at h
    have : ext = [] := List.length_eq_zero_iff.1 (by omega)
    rw [this, List.append_nil]
  have hcount : count ≤ 399 := by
    have := List.length_filter_le (fun p => decide (2 ≤ p) && primeB p) (List.range top)
    rw [List.length_range] at this
    rw [← hlen]; exact Nat.le_trans this h4
  refine Does.enter Tryd.func40 rfl Tryd.ntmps40 rfl ?_
  (repeat (first | refine CW.seq ?_ | refine QW.then_n ?_ | refine CW.block ?_ | refine CW.ret ?_ | refine CW.skip ?_ | refine CW.exit ?_ | refine QW.then_x ?_ | refine QW.then_r ?_ | refine QW.block_n ?_ | refine QW.block_xe ?_ | refine QW.block_xn rfl ?_ | refine QW.block_r ?_))
  refine CW.region ?_
  refine OW.rv (RV.assign rfl) rfl ?_
  refine OW.nil ?_
  (repeat (first | refine CW.seq ?_ | refine QW.then_n ?_ | refine CW.block ?_ | refine CW.ret ?_ | refine CW.skip ?_ | refine CW.exit ?_ | refine QW.then_x ?_ | refine QW.then_r ?_ | refine QW.block_n ?_ | refine QW.block_xe ?_ | refine QW.block_xn rfl ?_ | refine QW.block_r ?_))
  (repeat (first | refine CW.seq ?_ | refine QW.then_n ?_ | refine CW.block ?_ | refine CW.ret ?_ | refine CW.skip ?_ | refine CW.exit ?_ | refine QW.then_x ?_ | refine QW.then_r ?_ | refine QW.block_n ?_ | refine QW.block_xe ?_ | refine QW.block_xn rfl ?_ | refine QW.block_r ?_))
  refine CW.region ?_
  refine OW.rv (RV.assign rfl) rfl ?_
  refine OW.nil ?_
  (repeat (first | refine CW.seq ?_ | refine QW.then_n ?_ | refine CW.block ?_ | refine CW.ret ?_ | refine CW.skip ?_ | refine CW.exit ?_ | refine QW.then_x ?_ | refine QW.then_r ?_ | refine QW.block_n ?_ | refine QW.block_xe ?_ | refine QW.block_xn rfl ?_ | refine QW.block_r ?_))
  (repeat (first | refine CW.seq ?_ | refine QW.then_n ?_ | refine CW.block ?_ | refine CW.ret ?_ | refine CW.skip ?_ | refine CW.exit ?_ | refine QW.then_x ?_ | refine QW.then_r ?_ | refine QW.block_n ?_ | refine QW.block_xe ?_ | refine QW.block_xn rfl ?_ | refine QW.block_r ?_))
  refine CW.region ?_
  refine OW.rv (RV.assign rfl) rfl ?_
  refine OW.nil ?_
  (repeat (first | refine CW.seq ?_ | refine QW.then_n ?_ | refine CW.block ?_ | refine CW.ret ?_ | refine CW.skip ?_ | refine CW.exit ?_ | refine QW.then_x ?_ | refine QW.then_r ?_ | refine QW.block_n ?_ | refine QW.block_xe ?_ | refine QW.block_xn rfl ?_ | refine QW.block_r ?_))
  refine CW.loop (σ := Nat × Option Nat × List Value × Nat) (fun s => 2 ≤ s.1 ∧ s.1 ≤ top ∧ (u32s ((primesTo s.1).map (rootW 2)) ++ s.2.2.1).length = s.2.2.2 ∧ (s.2.1 = none → s.2.2.2 = 0)) (fun s => [(0, .int .i64 (count : Int)), (1, .int .i64 2), (5, sl s.2.1 0 (primesTo s.1).length s.2.2.2), (6, .int .i64 (s.1 : Int))])
    (fun s => (s.2.1, blk (u32s ((primesTo s.1).map (rootW 2)) ++ s.2.2.1) 22) :: M) (fun s => top - s.1) (2, none, [], 0) ⟨by simp, h2, rfl, fun _ => rfl⟩ ⟨rfl, rfl, rfl, rfl, trivial⟩ (fun _ m => m.nil_ent _) ?_
  rintro ⟨n, ob, r, cap⟩ ⟨hn2, hnt, h3, h5⟩
  dsimp only at hn2 hnt h3 h5 ⊢
  obtain ⟨hc1, hc2⟩ := hmono n hnt
  have hul : (u32s ((primesTo n).map (rootW 2))).length = (primesTo n).length := by rw [u32s_length, List.length_map]
  (repeat (first | refine CW.seq ?_ | refine QW.then_n ?_ | refine CW.block ?_ | refine CW.ret ?_ | refine CW.skip ?_ | refine CW.exit ?_ | refine QW.then_x ?_ | refine QW.then_r ?_ | refine QW.block_n ?_ | refine QW.block_xe ?_ | refine QW.block_xn rfl ?_ | refine QW.block_r ?_))
  refine CW.region ?_
  refine OW.rv (RV.move rfl) rfl ?_
  refine OW.rv (RV.len rfl rfl) rfl ?_
  refine OW.rv (RV.move rfl) rfl ?_
  refine OW.rv (RV.lss rfl rfl) rfl ?_
  refine OW.nil ?_
  (repeat (first | refine CW.seq ?_ | refine QW.then_n ?_ | refine CW.block ?_ | refine CW.ret ?_ | refine CW.skip ?_ | refine CW.exit ?_ | refine QW.then_x ?_ | refine QW.then_r ?_ | refine QW.block_n ?_ | refine QW.block_xe ?_ | refine QW.block_xn rfl ?_ | refine QW.block_r ?_))
  (first | refine CW.cond_t rfl ?_ | refine CW.cond_f rfl ?_ | refine CW.cond_p rfl (fun hlt => ?_) (fun hlt => ?_) | refine CW.cond_np rfl (fun hlt => ?_) (fun hlt => ?_) | refine CW.cond rfl (fun hlt => ?_) (fun hlt => ?_))
  · have hnt2 : n < top := by
      rcases Nat.lt_or_ge n top with h | h
      · exact h
      · have : n = top := by omega
        subst this; omega
    cases hp : primeB n
    · (repeat (first | refine CW.seq ?_ | refine QW.then_n ?_ | refine CW.block ?_ | refine CW.ret ?_ | refine CW.skip ?_ | refine CW.exit ?_ | refine QW.then_x ?_ | refine QW.then_r ?_ | refine QW.block_n ?_ | refine QW.block_xe ?_ | refine QW.block_xn rfl ?_ | refine QW.block_r ?_))
      refine CW.region ?_
      refine OW.rv (RV.move rfl) rfl ?_
      refine OW.call Tryd.call52 rfl (hp ▸ prime_does w0 _ n hn2 (by omega)) rfl (fun u hu => ?_)
      refine OW.nil ?_
      (repeat (first | refine CW.seq ?_ | refine QW.then_n ?_ | refine CW.block ?_ | refine CW.ret ?_ | refine CW.skip ?_ | refine CW.exit ?_ | refine QW.then_x ?_ | refine QW.then_r ?_ | refine QW.block_n ?_ | refine QW.block_xe ?_ | refine QW.block_xn rfl ?_ | refine QW.block_r ?_))
      (first | refine CW.cond_t rfl ?_ | refine CW.cond_f rfl ?_ | refine CW.cond_p rfl (fun hh => ?_) (fun hh => ?_) | refine CW.cond_np rfl (fun hh => ?_) (fun hh => ?_) | refine CW.cond rfl (fun hh => ?_) (fun hh => ?_))
      (repeat (first | refine CW.seq ?_ | refine QW.then_n ?_ | refine CW.block ?_ | refine CW.ret ?_ | refine CW.skip ?_ | refine CW.exit ?_ | refine QW.then_x ?_ | refine QW.then_r ?_ | refine QW.block_n ?_ | refine QW.block_xe ?_ | refine QW.block_xn rfl ?_ | refine QW.block_r ?_))
      (repeat (first | refine CW.seq ?_ | refine QW.then_n ?_ | refine CW.block ?_ | refine CW.ret ?_ | refine CW.skip ?_ | refine CW.exit ?_ | refine QW.then_x ?_ | refine QW.then_r ?_ | refine QW.block_n ?_ | refine QW.block_xe ?_ | refine QW.block_xn rfl ?_ | refine QW.block_r ?_))
      refine CW.region ?_
      refine OW.rv (RV.move rfl) rfl ?_
      refine OW.rv (RV.add rfl rfl (by omega)) rfl ?_
      refine OW.rv (RV.assign rfl) rfl ?_
      refine OW.nil ?_
      (repeat (first | refine CW.seq ?_ | refine QW.then_n ?_ | refine CW.block ?_ | refine CW.ret ?_ | refine CW.skip ?_ | refine CW.exit ?_ | refine QW.then_x ?_ | refine QW.then_r ?_ | refine QW.block_n ?_ | refine QW.block_xe ?_ | refine QW.block_xn rfl ?_ | refine QW.block_r ?_))
      have e : primesTo (n + 1) = primesTo n := by rw [primesTo_succ, hp]; simp
      exact QW.again (n + 1, ob, r, cap) ⟨by show 2 ≤ n + 1; omega, by show n + 1 ≤ top; omega, by rw [e]; exact h3, h5⟩ (by show top - (n + 1) < top - n; omega) ⟨rfl, rfl, by rw [e]; rfl, rfl, trivial⟩ (fun _ m => by rw [e]; exact m)
    · have e : primesTo (n + 1) = primesTo n ++ [n] := by rw [primesTo_succ, hp]; simp [hn2]
      have hcn : rt 2 n ^ 2 ≤ n * 2 ^ (32 * 2) ∧ n * 2 ^ (32 * 2) < (rt 2 n + 1) ^ 2 := by
        have := List.all_eq_true.1 hcert n (List.mem_filter.2 ⟨List.mem_range.2 hnt2, by simp [hp, hn2]⟩)
        simpa only [Bool.and_eq_true, decide_eq_true_eq] using this
      (repeat (first | refine CW.seq ?_ | refine QW.then_n ?_ | refine CW.block ?_ | refine CW.ret ?_ | refine CW.skip ?_ | refine CW.exit ?_ | refine QW.then_x ?_ | refine QW.then_r ?_ | refine QW.block_n ?_ | refine QW.block_xe ?_ | refine QW.block_xn rfl ?_ | refine QW.block_r ?_))
      refine CW.region ?_
      refine OW.rv (RV.move rfl) rfl ?_
      refine OW.call Tryd.call52 rfl (hp ▸ prime_does w0 _ n hn2 (by omega)) rfl (fun u hu => ?_)
      refine OW.nil ?_
      (repeat (first | refine CW.seq ?_ | refine QW.then_n ?_ | refine CW.block ?_ | refine CW.ret ?_ | refine CW.skip ?_ | refine CW.exit ?_ | refine QW.then_x ?_ | refine QW.then_r ?_ | refine QW.block_n ?_ | refine QW.block_xe ?_ | refine QW.block_xn rfl ?_ | refine QW.block_r ?_))
      (first | refine CW.cond_t rfl ?_ | refine CW.cond_f rfl ?_ | refine CW.cond_p rfl (fun hh => ?_) (fun hh => ?_) | refine CW.cond_np rfl (fun hh => ?_) (fun hh => ?_) | refine CW.cond rfl (fun hh => ?_) (fun hh => ?_))
      (repeat (first | refine CW.seq ?_ | refine QW.then_n ?_ | refine CW.block ?_ | refine CW.ret ?_ | refine CW.skip ?_ | refine CW.exit ?_ | refine QW.then_x ?_ | refine QW.then_r ?_ | refine QW.block_n ?_ | refine QW.block_xe ?_ | refine QW.block_xn rfl ?_ | refine QW.block_r ?_))
      refine CW.region ?_
      refine OW.rv (RV.move rfl) rfl ?_
      refine OW.rv (RV.move rfl) rfl ?_
      refine OW.rv (RV.move rfl) rfl ?_
      refine OW.call Tryd.call53 rfl (bits2_does w0 _ n (by omega)) rfl (fun rr hrr => ?_)
      (first | refine OW.push rfl rfl rfl rfl rfl rfl rfl rfl (by first | assumption | rfl | simp | omega) (by first | assumption | rfl | (simp; done)) (by first | assumption | exact (fun _ => rfl) | exact (fun h => nomatch h)) (by omega) (by simp only [i22]; omega) rfl rfl (fun b20 ob20 r20 cap20 hr20 hn20 => ?_) | (refine OW.rot1 ?_; refine OW.push rfl rfl rfl rfl rfl rfl rfl rfl (by first | assumption | rfl | simp | omega) (by first | assumption | rfl | (simp; done)) (by first | assumption | exact (fun _ => rfl) | exact (fun h => nomatch h)) (by omega) (by simp only [i22]; omega) rfl rfl (fun b20 ob20 r20 cap20 hr20 hn20 => ?_)) | (refine OW.rot2 ?_; refine OW.push rfl rfl rfl rfl rfl rfl rfl rfl (by first | assumption | rfl | simp | omega) (by first | assumption | rfl | (simp; done)) (by first | assumption | exact (fun _ => rfl) | exact (fun h => nomatch h)) (by omega) (by simp only [i22]; omega) rfl rfl (fun b20 ob20 r20 cap20 hr20 hn20 => ?_)) | (refine OW.rot3 ?_; refine OW.push rfl rfl rfl rfl rfl rfl rfl rfl (by first | assumption | rfl | simp | omega) (by first | assumption | rfl | (simp; done)) (by first | assumption | exact (fun _ => rfl) | exact (fun h => nomatch h)) (by omega) (by simp only [i22]; omega) rfl rfl (fun b20 ob20 r20 cap20 hr20 hn20 => ?_)))
      refine OW.rv (RV.assign rfl) rfl ?_
      refine OW.nil ?_
      (repeat (first | refine CW.seq ?_ | refine QW.then_n ?_ | refine CW.block ?_ | refine CW.ret ?_ | refine CW.skip ?_ | refine CW.exit ?_ | refine QW.then_x ?_ | refine QW.then_r ?_ | refine QW.block_n ?_ | refine QW.block_xe ?_ | refine QW.block_xn rfl ?_ | refine QW.block_r ?_))
      rw [root_val2 hrr hcn.1 hcn.2] at hr20
      rw [root_val2 hrr hcn.1 hcn.2]
      (repeat (first | refine CW.seq ?_ | refine QW.then_n ?_ | refine CW.block ?_ | refine CW.ret ?_ | refine CW.skip ?_ | refine CW.exit ?_ | refine QW.then_x ?_ | refine QW.then_r ?_ | refine QW.block_n ?_ | refine QW.block_xe ?_ | refine QW.block_xn rfl ?_ | refine QW.block_r ?_))
      refine CW.region ?_
      refine OW.rv (RV.move rfl) rfl ?_
      refine OW.rv (RV.add rfl rfl (by omega)) rfl ?_
      refine OW.rv (RV.assign rfl) rfl ?_
      refine OW.nil ?_
      (repeat (first | refine CW.seq ?_ | refine QW.then_n ?_ | refine CW.block ?_ | refine CW.ret ?_ | refine CW.skip ?_ | refine CW.exit ?_ | refine QW.then_x ?_ | refine QW.then_r ?_ | refine QW.block_n ?_ | refine QW.block_xe ?_ | refine QW.block_xn rfl ?_ | refine QW.block_r ?_))
      have e2 : u32s ((primesTo (n + 1)).map (rootW 2)) = u32s ((primesTo n).map (rootW 2)) ++ [U32 (rootW 2 n)] := by rw [e]; simp [u32s]
      exact QW.again (n + 1, ob20, r20, cap20) ⟨by show 2 ≤ n + 1; omega, by show n + 1 ≤ top; omega, by rw [e2]; exact hr20, hn20⟩ (by show top - (n + 1) < top - n; omega) ⟨rfl, rfl, by rw [e, List.length_append]; rfl, rfl, trivial⟩ (fun _ m => by rw [e2]; exact m)
  · have hl : (primesTo n).length = count := by omega
    have he := hc2 hl
    rw [he] at h3 ⊢
    (repeat (first | refine CW.seq ?_ | refine QW.then_n ?_ | refine CW.block ?_ | refine CW.ret ?_ | refine CW.skip ?_ | refine CW.exit ?_ | refine QW.then_x ?_ | refine QW.then_r ?_ | refine QW.block_n ?_ | refine QW.block_xe ?_ | refine QW.block_xn rfl ?_ | refine QW.block_r ?_))
    refine CW.region ?_
    refine OW.rv (RV.move rfl) rfl ?_
    refine OW.rv (RV.assign rfl) rfl ?_
    refine OW.nil ?_
    (repeat (first | refine CW.seq ?_ | refine QW.then_n ?_ | refine CW.block ?_ | refine CW.ret ?_ | refine CW.skip ?_ | refine CW.exit ?_ | refine QW.then_x ?_ | refine QW.then_r ?_ | refine QW.block_n ?_ | refine QW.block_xe ?_ | refine QW.block_xn rfl ?_ | refine QW.block_r ?_))
    rw [hlen]
    exact QW.ret1 rfl (ob, r, cap) ⟨h3, h5⟩ rfl (fun _ m => m)
theorem root_val3 {n : Nat} {r : Int} (hr : 0 ≤ r ∧ r ^ 3 ≤ (n : Int) * 65536 ^ (2 * 3) ∧ (n : Int) * 65536 ^ (2 * 3) < (r + 1) ^ 3) (h1 : rt 3 n ^ 3 ≤ n * 2 ^ (32 * 3)) (h2 : n * 2 ^ (32 * 3) < (rt 3 n + 1) ^ 3) : BitVec.ofInt 32 (r % 4294967296) = rootW 3 n := by
  obtain ⟨a, b, c⟩ := hr
  obtain ⟨m, rfl⟩ : ∃ m : Nat, r = m := ⟨r.toNat, by omega⟩
  have e : (n : Int) * 65536 ^ (2 * 3) = ((n * 2 ^ (32 * 3) : Nat) : Int) := by
    rw [Int.natCast_mul]; congr 1
  rw [e] at b c
  have b' : m ^ 3 ≤ n * 2 ^ (32 * 3) := by rw [← Int.natCast_pow] at b; exact Int.ofNat_le.1 b
  have c' : n * 2 ^ (32 * 3) < (m + 1) ^ 3 := by
    have e2 : ((m : Int) + 1) = ((m + 1 : Nat) : Int) := by omega
    rw [e2, ← Int.natCast_pow] at c; exact Int.ofNat_lt.1 c
  have hm : m = rt 3 n := Nat.le_antisymm (root_unique b' h2) (root_unique h1 c')
  subst hm
  unfold rootW
  apply BitVec.eq_of_toNat_eq
  rw [BitVec.toNat_ofInt, BitVec.toNat_ofNat]
  omega
theorem roots3_does (w0 : World) (M : List Ent) (top : Nat) (count : Nat) (h2 : 2 ≤ top) (h4 : top ≤ 399) (hlen : (primesTo top).length = count) (hcert : certB 3 top = true) :
    Does Tryd.prog 40 [.int .i64 (count : Int), .int .i64 3] w0 M (τ := Option Nat × List Value × Nat) (fun q => (u32s ((primesTo top).map (rootW 3)) ++ q.2.1).length = q.2.2 ∧ (q.1 = none → q.2.2 = 0)) (fun q => sl q.1 0 count q.2.2) (fun q => (q.1, blk (u32s ((primesTo top).map (rootW 3)) ++ q.2.1) 22) :: M) := by
  have hmono : ∀ n, n ≤ top → (primesTo n).length ≤ count ∧ ((primesTo n).length = count → primesTo n = primesTo top) := fun n hn => by
    obtain ⟨ext, he⟩ := primesTo_prefix hn
    rw [← hlen, he]
    refine ⟨by simp, fun h => ?_⟩
    rw [List.length_append] at h
    have : ext = [] := List.length_eq_zero_iff.1 (by omega)
    rw [this, List.append_nil]
  have hcount : count ≤ 399 := by
    have := List.length_filter_le (fun p => decide (2 ≤ p) && primeB p) (List.range top)
    rw [List.length_range] at this
    rw [← hlen]; exact Nat.le_trans this h4
  refine Does.enter Tryd.func40 rfl Tryd.ntmps40 rfl ?_
  (repeat (first | refine CW.seq ?_ | refine QW.then_n ?_ | refine CW.block ?_ | refine CW.ret ?_ | refine CW.skip ?_ | refine CW.exit ?_ | refine QW.then_x ?_ | refine QW.then_r ?_ | refine QW.block_n ?_ | refine QW.block_xe ?_ | refine QW.block_xn rfl ?_ | refine QW.block_r ?_))
  refine CW.region ?_
  refine OW.rv (RV.assign rfl) rfl ?_
  refine OW.nil ?_
  (repeat (first | refine CW.seq ?_ | refine QW.then_n ?_ | refine CW.block ?_ | refine CW.ret ?_ | refine CW.skip ?_ | refine CW.exit ?_ | refine QW.then_x ?_ | refine QW.then_r ?_ | refine QW.block_n ?_ | refine QW.block_xe ?_ | refine QW.block_xn rfl ?_ | refine QW.block_r ?_))
  (repeat (first | refine CW.seq ?_ | refine QW.then_n ?_ | refine CW.block ?_ | refine CW.ret ?_ | refine CW.skip ?_ | refine CW.exit ?_ | refine QW.then_x ?_ | refine QW.then_r ?_ | refine QW.block_n ?_ | refine QW.block_xe ?_ | refine QW.block_xn rfl ?_ | refine QW.block_r ?_))
  refine CW.region ?_
  refine OW.rv (RV.assign rfl) rfl ?_
  refine OW.nil ?_
  (repeat (first | refine CW.seq ?_ | refine QW.then_n ?_ | refine CW.block ?_ | refine CW.ret ?_ | refine CW.skip ?_ | refine CW.exit ?_ | refine QW.then_x ?_ | refine QW.then_r ?_ | refine QW.block_n ?_ | refine QW.block_xe ?_ | refine QW.block_xn rfl ?_ | refine QW.block_r ?_))
  (repeat (first | refine CW.seq ?_ | refine QW.then_n ?_ | refine CW.block ?_ | refine CW.ret ?_ | refine CW.skip ?_ | refine CW.exit ?_ | refine QW.then_x ?_ | refine QW.then_r ?_ | refine QW.block_n ?_ | refine QW.block_xe ?_ | refine QW.block_xn rfl ?_ | refine QW.block_r ?_))
  refine CW.region ?_
  refine OW.rv (RV.assign rfl) rfl ?_
  refine OW.nil ?_
  (repeat (first | refine CW.seq ?_ | refine QW.then_n ?_ | refine CW.block ?_ | refine CW.ret ?_ | refine CW.skip ?_ | refine CW.exit ?_ | refine QW.then_x ?_ | refine QW.then_r ?_ | refine QW.block_n ?_ | refine QW.block_xe ?_ | refine QW.block_xn rfl ?_ | refine QW.block_r ?_))
  refine CW.loop (σ := Nat × Option Nat × List Value × Nat) (fun s => 2 ≤ s.1 ∧ s.1 ≤ top ∧ (u32s ((primesTo s.1).map (rootW 3)) ++ s.2.2.1).length = s.2.2.2 ∧ (s.2.1 = none → s.2.2.2 = 0)) (fun s => [(0, .int .i64 (count : Int)), (1, .int .i64 3), (5, sl s.2.1 0 (primesTo s.1).length s.2.2.2), (6, .int .i64 (s.1 : Int))])
    (fun s => (s.2.1, blk (u32s ((primesTo s.1).map (rootW 3)) ++ s.2.2.1) 22) :: M) (fun s => top - s.1) (2, none, [], 0) ⟨by simp, h2, rfl, fun _ => rfl⟩ ⟨rfl, rfl, rfl, rfl, trivial⟩ (fun _ m => m.nil_ent _) ?_
  rintro ⟨n, ob, r, cap⟩ ⟨hn2, hnt, h3, h5⟩
  dsimp only at hn2 hnt h3 h5 ⊢
  obtain ⟨hc1, hc2⟩ := hmono n hnt
  have hul : (u32s ((primesTo n).map (rootW 3))).length = (primesTo n).length := by rw [u32s_length, List.length_map]
  (repeat (first | refine CW.seq ?_ | refine QW.then_n ?_ | refine CW.block ?_ | refine CW.ret ?_ | refine CW.skip ?_ | refine CW.exit ?_ | refine QW.then_x ?_ | refine QW.then_r ?_ | refine QW.block_n ?_ | refine QW.block_xe ?_ | refine QW.block_xn rfl ?_ | refine QW.block_r ?_))
  refine CW.region ?_
  refine OW.rv (RV.move rfl) rfl ?_
  refine OW.rv (RV.len rfl rfl) rfl ?_
  refine OW.rv (RV.move rfl) rfl ?_
  refine OW.rv (RV.lss rfl rfl) rfl ?_
  refine OW.nil ?_
  (repeat (first | refine CW.seq ?_ | refine QW.then_n ?_ | refine CW.block ?_ | refine CW.ret ?_ | refine CW.skip ?_ | refine CW.exit ?_ | refine QW.then_x ?_ | refine QW.then_r ?_ | refine QW.block_n ?_ | refine QW.block_xe ?_ | refine QW.block_xn rfl ?_ | refine QW.block_r ?_))
  (first | refine CW.cond_t rfl ?_ | refine CW.cond_f rfl ?_ | refine CW.cond_p rfl (fun hlt => ?_) (fun hlt => ?_) | refine CW.cond_np rfl (fun hlt => ?_) (fun hlt => ?_) | refine CW.cond rfl (fun hlt => ?_) (fun hlt => ?_))
  · have hnt2 : n < top := by
      rcases Nat.lt_or_ge n top with h | h
      · exact h
      · have : n = top := by omega
        subst this; omega
    cases hp : primeB n
    · (repeat (first | refine CW.seq ?_ | refine QW.then_n ?_ | refine CW.block ?_ | refine CW.ret ?_ | refine CW.skip ?_ | refine CW.exit ?_ | refine QW.then_x ?_ | refine QW.then_r ?_ | refine QW.block_n ?_ | refine QW.block_xe ?_ | refine QW.block_xn rfl ?_ | refine QW.block_r ?_))
      refine CW.region ?_
      refine OW.rv (RV.move rfl) rfl ?_
      refine OW.call Tryd.call52 rfl (hp ▸ prime_does w0 _ n hn2 (by omega)) rfl (fun u hu => ?_)
      refine OW.nil ?_
      (repeat (first | refine CW.seq ?_ | refine QW.then_n ?_ | refine CW.block ?_ | refine CW.ret ?_ | refine CW.skip ?_ | refine CW.exit ?_ | refine QW.then_x ?_ | refine QW.then_r ?_ | refine QW.block_n ?_ | refine QW.block_xe ?_ | refine QW.block_xn rfl ?_ | refine QW.block_r ?_))
      (first | refine CW.cond_t rfl ?_ | refine CW.cond_f rfl ?_ | refine CW.cond_p rfl (fun hh => ?_) (fun hh => ?_) | refine CW.cond_np rfl (fun hh => ?_) (fun hh => ?_) | refine CW.cond rfl (fun hh => ?_) (fun hh => ?_))
      (repeat (first | refine CW.seq ?_ | refine QW.then_n ?_ | refine CW.block ?_ | refine CW.ret ?_ | refine CW.skip ?_ | refine CW.exit ?_ | refine QW.then_x ?_ | refine QW.then_r ?_ | refine QW.block_n ?_ | refine QW.block_xe ?_ | refine QW.block_xn rfl ?_ | refine QW.block_r ?_))
      (repeat (first | refine CW.seq ?_ | refine QW.then_n ?_ | refine CW.block ?_ | refine CW.ret ?_ | refine CW.skip ?_ | refine CW.exit ?_ | refine QW.then_x ?_ | refine QW.then_r ?_ | refine QW.block_n ?_ | refine QW.block_xe ?_ | refine QW.block_xn rfl ?_ | refine QW.block_r ?_))
      refine CW.region ?_
      refine OW.rv (RV.move rfl) rfl ?_
      refine OW.rv (RV.add rfl rfl (by omega)) rfl ?_
      refine OW.rv (RV.assign rfl) rfl ?_
      refine OW.nil ?_
      (repeat (first | refine CW.seq ?_ | refine QW.then_n ?_ | refine CW.block ?_ | refine CW.ret ?_ | refine CW.skip ?_ | refine CW.exit ?_ | refine QW.then_x ?_ | refine QW.then_r ?_ | refine QW.block_n ?_ | refine QW.block_xe ?_ | refine QW.block_xn rfl ?_ | refine QW.block_r ?_))
      have e : primesTo (n + 1) = primesTo n := by rw [primesTo_succ, hp]; simp
      exact QW.again (n + 1, ob, r, cap) ⟨by show 2 ≤ n + 1; omega, by show n + 1 ≤ top; omega, by rw [e]; exact h3, h5⟩ (by show top - (n + 1) < top - n; omega) ⟨rfl, rfl, by rw [e]; rfl, rfl, trivial⟩ (fun _ m => by rw [e]; exact m)
    · have e : primesTo (n + 1) = primesTo n ++ [n] := by rw [primesTo_succ, hp]; simp [hn2]
      have hcn : rt 3 n ^ 3 ≤ n * 2 ^ (32 * 3) ∧ n * 2 ^ (32 * 3) < (rt 3 n + 1) ^ 3 := by
        have := List.all_eq_true.1 hcert n (List.mem_filter.2 ⟨List.mem_range.2 hnt2, by simp [hp, hn2]⟩)
        simpa only [Bool.and_eq_true, decide_eq_true_eq] using this
      (repeat (first | refine CW.seq ?_ | refine QW.then_n ?_ | refine CW.block ?_ | refine CW.ret ?_ | refine CW.skip ?_ | refine CW.exit ?_ | refine QW.then_x ?_ | refine QW.then_r ?_ | refine QW.block_n ?_ | refine QW.block_xe ?_ | refine QW.block_xn rfl ?_ | refine QW.block_r ?_))
      refine CW.region ?_
      refine OW.rv (RV.move rfl) rfl ?_
      refine OW.call Tryd.call52 rfl (hp ▸ prime_does w0 _ n hn2 (by omega)) rfl (fun u hu => ?_)
      refine OW.nil ?_
      (repeat (first | refine CW.seq ?_ | refine QW.then_n ?_ | refine CW.block ?_ | refine CW.ret ?_ | refine CW.skip ?_ | refine CW.exit ?_ | refine QW.then_x ?_ | refine QW.then_r ?_ | refine QW.block_n ?_ | refine QW.block_xe ?_ | refine QW.block_xn rfl ?_ | refine QW.block_r ?_))
      (first | refine CW.cond_t rfl ?_ | refine CW.cond_f rfl ?_ | refine CW.cond_p rfl (fun hh => ?_) (fun hh => ?_) | refine CW.cond_np rfl (fun hh => ?_) (fun hh => ?_) | refine CW.cond rfl (fun hh => ?_) (fun hh => ?_))
      (repeat (first | refine CW.seq ?_ | refine QW.then_n ?_ | refine CW.block ?_ | refine CW.ret ?_ | refine CW.skip ?_ | refine CW.exit ?_ | refine QW.then_x ?_ | refine QW.then_r ?_ | refine QW.block_n ?_ | refine QW.block_xe ?_ | refine QW.block_xn rfl ?_ | refine QW.block_r ?_))
      refine CW.region ?_
      refine OW.rv (RV.move rfl) rfl ?_
      refine OW.rv (RV.move rfl) rfl ?_
      refine OW.rv (RV.move rfl) rfl ?_
      refine OW.call Tryd.call53 rfl (bits3_does w0 _ n (by omega)) rfl (fun rr hrr => ?_)
      (first | refine OW.push rfl rfl rfl rfl rfl rfl rfl rfl (by first | assumption | rfl | simp | omega) (by first | assumption | rfl | (simp; done)) (by first | assumption | exact (fun _ => rfl) | exact (fun h => nomatch h)) (by omega) (by simp only [i22]; omega) rfl rfl (fun b20 ob20 r20 cap20 hr20 hn20 => ?_) | (refine OW.rot1 ?_; refine OW.push rfl rfl rfl rfl rfl rfl rfl rfl (by first | assumption | rfl | simp | omega) (by first | assumption | rfl | (simp; done)) (by first | assumption | exact (fun _ => rfl) | exact (fun h => nomatch h)) (by omega) (by simp only [i22]; omega) rfl rfl (fun b20 ob20 r20 cap20 hr20 hn20 => ?_)) | (refine OW.rot2 ?_; refine OW.push rfl rfl rfl rfl rfl rfl rfl rfl (by first | assumption | rfl | simp | omega) (by first | assumption | rfl | (simp; done)) (by first | assumption | exact (fun _ => rfl) | exact (fun h => nomatch h)) (by omega) (by simp only [i22]; omega) rfl rfl (fun b20 ob20 r20 cap20 hr20 hn20 => ?_)) | (refine OW.rot3 ?_; refine OW.push rfl rfl rfl rfl rfl rfl rfl rfl (by first | assumption | rfl | simp | omega) (by first | assumption | rfl | (simp; done)) (by first | assumption | exact (fun _ => rfl) | exact (fun h => nomatch h)) (by omega) (by simp only [i22]; omega) rfl rfl (fun b20 ob20 r20 cap20 hr20 hn20 => ?_)))
      refine OW.rv (RV.assign rfl) rfl ?_
      refine OW.nil ?_
      (repeat (first | refine CW.seq ?_ | refine QW.then_n ?_ | refine CW.block ?_ | refine CW.ret ?_ | refine CW.skip ?_ | refine CW.exit ?_ | refine QW.then_x ?_ | refine QW.then_r ?_ | refine QW.block_n ?_ | refine QW.block_xe ?_ | refine QW.block_xn rfl ?_ | refine QW.block_r ?_))
      rw [root_val3 hrr hcn.1 hcn.2] at hr20
      rw [root_val3 hrr hcn.1 hcn.2]
      (repeat (first | refine CW.seq ?_ | refine QW.then_n ?_ | refine CW.block ?_ | refine CW.ret ?_ | refine CW.skip ?_ | refine CW.exit ?_ | refine QW.then_x ?_ | refine QW.then_r ?_ | refine QW.block_n ?_ | refine QW.block_xe ?_ | refine QW.block_xn rfl ?_ | refine QW.block_r ?_))
      refine CW.region ?_
      refine OW.rv (RV.move rfl) rfl ?_
      refine OW.rv (RV.add rfl rfl (by omega)) rfl ?_
      refine OW.rv (RV.assign rfl) rfl ?_
      refine OW.nil ?_
      (repeat (first | refine CW.seq ?_ | refine QW.then_n ?_ | refine CW.block ?_ | refine CW.ret ?_ | refine CW.skip ?_ | refine CW.exit ?_ | refine QW.then_x ?_ | refine QW.then_r ?_ | refine QW.block_n ?_ | refine QW.block_xe ?_ | refine QW.block_xn rfl ?_ | refine QW.block_r ?_))
      have e2 : u32s ((primesTo (n + 1)).map (rootW 3)) = u32s ((primesTo n).map (rootW 3)) ++ [U32 (rootW 3 n)] := by rw [e]; simp [u32s]
      exact QW.again (n + 1, ob20, r20, cap20) ⟨by show 2 ≤ n + 1; omega, by show n + 1 ≤ top; omega, by rw [e2]; exact hr20, hn20⟩ (by show top - (n + 1) < top - n; omega) ⟨rfl, rfl, by rw [e, List.length_append]; rfl, rfl, trivial⟩ (fun _ m => by rw [e2]; exact m)
  · have hl : (primesTo n).length = count := by omega
    have he := hc2 hl
    rw [he] at h3 ⊢
    (repeat (first | refine CW.seq ?_ | refine QW.then_n ?_ | refine CW.block ?_ | refine CW.ret ?_ | refine CW.skip ?_ | refine CW.exit ?_ | refine QW.then_x ?_ | refine QW.then_r ?_ | refine QW.block_n ?_ | refine QW.block_xe ?_ | refine QW.block_xn rfl ?_ | refine QW.block_r ?_))
    refine CW.region ?_
    refine OW.rv (RV.move rfl) rfl ?_
    refine OW.rv (RV.assign rfl) rfl ?_
    refine OW.nil ?_
    (repeat (first | refine CW.seq ?_ | refine QW.then_n ?_ | refine CW.block ?_ | refine CW.ret ?_ | refine CW.skip ?_ | refine CW.exit ?_ | refine QW.then_x ?_ | refine QW.then_r ?_ | refine QW.block_n ?_ | refine QW.block_xe ?_ | refine QW.block_xn rfl ?_ | refine QW.block_r ?_))
    rw [hlen]
    exact QW.ret1 rfl (ob, r, cap) ⟨h3, h5⟩ rfl (fun _ m => m)
end Go.Fw.Tryd
