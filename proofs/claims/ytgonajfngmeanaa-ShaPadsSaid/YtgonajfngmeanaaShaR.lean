/- Part of a proof over Ytgonajfngmeanaa: rules and contracts that the law's text uses. No condition. -/
import Derived.Test.YtgonajfngmeanaaShaA
namespace Go.Fw.Try
open Go Go.Proofs
set_option maxRecDepth 100000
set_option linter.unusedVariables false

theorem rpad_neg (w0 : World) (M : List Ent) (n : Int) (h : n < 0) : Does Try.prog 6 [.int .i64 n] w0 M (τ := Unit) (fun _ => True) (fun _ => .tuple #[.slice none 0 0, .int .i64 1]) (fun _ => M) := by
  refine Does.enter Try.func6 rfl Try.ntmps6 rfl ?_
  (repeat (first | refine CW.seq ?_ | refine QW.then_n ?_ | refine CW.block ?_ | refine CW.ret ?_ | refine CW.skip ?_ | refine CW.exit ?_ | refine QW.then_x ?_ | refine QW.then_r ?_ | refine QW.block_n ?_ | refine QW.block_xe ?_ | refine QW.block_xn rfl ?_ | refine QW.block_r ?_))
  refine CW.region ?_
  refine OW.rv (RV.assign rfl) rfl ?_
  refine OW.rv (RV.assign rfl) rfl ?_
  refine OW.nil ?_
  (repeat (first | refine CW.seq ?_ | refine QW.then_n ?_ | refine CW.block ?_ | refine CW.ret ?_ | refine CW.skip ?_ | refine CW.exit ?_ | refine QW.then_x ?_ | refine QW.then_r ?_ | refine QW.block_n ?_ | refine QW.block_xe ?_ | refine QW.block_xn rfl ?_ | refine QW.block_r ?_))
  (repeat (first | refine CW.seq ?_ | refine QW.then_n ?_ | refine CW.block ?_ | refine CW.ret ?_ | refine CW.skip ?_ | refine CW.exit ?_ | refine QW.then_x ?_ | refine QW.then_r ?_ | refine QW.block_n ?_ | refine QW.block_xe ?_ | refine QW.block_xn rfl ?_ | refine QW.block_r ?_))
  refine CW.region ?_
  refine OW.rv (RV.move rfl) rfl ?_
  (first | refine OW.rv (RV.lss_t rfl rfl (by omega)) rfl ?_ | refine OW.rv (RV.lss_f rfl rfl (by omega)) rfl ?_ | refine OW.rv (RV.lss rfl rfl) rfl ?_)
  refine OW.nil ?_
  (repeat (first | refine CW.seq ?_ | refine QW.then_n ?_ | refine CW.block ?_ | refine CW.ret ?_ | refine CW.skip ?_ | refine CW.exit ?_ | refine QW.then_x ?_ | refine QW.then_r ?_ | refine QW.block_n ?_ | refine QW.block_xe ?_ | refine QW.block_xn rfl ?_ | refine QW.block_r ?_))
  (first | refine CW.cond_t rfl ?_ | refine CW.cond_f rfl ?_ | refine CW.cond_p rfl (fun h => ?_) (fun h => ?_) | refine CW.cond_np rfl (fun h => ?_) (fun h => ?_) | refine CW.cond rfl (fun h => ?_) (fun h => ?_))
  (repeat (first | refine CW.seq ?_ | refine QW.then_n ?_ | refine CW.block ?_ | refine CW.ret ?_ | refine CW.skip ?_ | refine CW.exit ?_ | refine QW.then_x ?_ | refine QW.then_r ?_ | refine QW.block_n ?_ | refine QW.block_xe ?_ | refine QW.block_xn rfl ?_ | refine QW.block_r ?_))
  refine CW.region ?_
  refine OW.rv (RV.assign rfl) rfl ?_
  refine OW.rv (RV.assign rfl) rfl ?_
  refine OW.nil ?_
  (repeat (first | refine CW.seq ?_ | refine QW.then_n ?_ | refine CW.block ?_ | refine CW.ret ?_ | refine CW.skip ?_ | refine CW.exit ?_ | refine QW.then_x ?_ | refine QW.then_r ?_ | refine QW.block_n ?_ | refine QW.block_xe ?_ | refine QW.block_xn rfl ?_ | refine QW.block_r ?_))
  exact QW.ret2 rfl () trivial rfl rfl rfl (fun _ m => m)

theorem rpad_does (w0 : World) (M : List Ent) (n : Int) (h : 0 ≤ n) (hm : n ≤ 9223372036854775807) :
    Does Try.prog 6 [.int .i64 n] w0 M (τ := Option Nat × List Value × Nat) (fun q => (u8s (padL n) ++ q.2.1).length = q.2.2 ∧ (q.1 = none → q.2.2 = 0)) (fun q => .tuple #[sl q.1 0 (padLen n) q.2.2, .int .i64 0]) (fun q => (q.1, blk (u8s (padL n) ++ q.2.1) 5) :: M) := by
  have hL : (padLen n : Int) = 9 + (64 - (n % 64 + 9) % 64) % 64 := by unfold padLen; omega
  have hL9 : 9 ≤ padLen n := by omega
  have hL72 : padLen n ≤ 72 := by omega
  refine Does.enter Try.func6 rfl Try.ntmps6 rfl ?_
  (repeat (first | refine CW.seq ?_ | refine QW.then_n ?_ | refine CW.block ?_ | refine CW.ret ?_ | refine CW.skip ?_ | refine CW.exit ?_ | refine QW.then_x ?_ | refine QW.then_r ?_ | refine QW.block_n ?_ | refine QW.block_xe ?_ | refine QW.block_xn rfl ?_ | refine QW.block_r ?_))
  refine CW.region ?_
  refine OW.rv (RV.assign rfl) rfl ?_
  refine OW.rv (RV.assign rfl) rfl ?_
  refine OW.nil ?_
  (repeat (first | refine CW.seq ?_ | refine QW.then_n ?_ | refine CW.block ?_ | refine CW.ret ?_ | refine CW.skip ?_ | refine CW.exit ?_ | refine QW.then_x ?_ | refine QW.then_r ?_ | refine QW.block_n ?_ | refine QW.block_xe ?_ | refine QW.block_xn rfl ?_ | refine QW.block_r ?_))
  (repeat (first | refine CW.seq ?_ | refine QW.then_n ?_ | refine CW.block ?_ | refine CW.ret ?_ | refine CW.skip ?_ | refine CW.exit ?_ | refine QW.then_x ?_ | refine QW.then_r ?_ | refine QW.block_n ?_ | refine QW.block_xe ?_ | refine QW.block_xn rfl ?_ | refine QW.block_r ?_))
  refine CW.region ?_
  refine OW.rv (RV.move rfl) rfl ?_
  (first | refine OW.rv (RV.lss_t rfl rfl (by omega)) rfl ?_ | refine OW.rv (RV.lss_f rfl rfl (by omega)) rfl ?_ | refine OW.rv (RV.lss rfl rfl) rfl ?_)
  refine OW.nil ?_
  (repeat (first | refine CW.seq ?_ | refine QW.then_n ?_ | refine CW.block ?_ | refine CW.ret ?_ | refine CW.skip ?_ | refine CW.exit ?_ | refine QW.then_x ?_ | refine QW.then_r ?_ | refine QW.block_n ?_ | refine QW.block_xe ?_ | refine QW.block_xn rfl ?_ | refine QW.block_r ?_))
  (first | refine CW.cond_t rfl ?_ | refine CW.cond_f rfl ?_ | refine CW.cond_p rfl (fun h => ?_) (fun h => ?_) | refine CW.cond_np rfl (fun h => ?_) (fun h => ?_) | refine CW.cond rfl (fun h => ?_) (fun h => ?_))
  (repeat (first | refine CW.seq ?_ | refine QW.then_n ?_ | refine CW.block ?_ | refine CW.ret ?_ | refine CW.skip ?_ | refine CW.exit ?_ | refine QW.then_x ?_ | refine QW.then_r ?_ | refine QW.block_n ?_ | refine QW.block_xe ?_ | refine QW.block_xn rfl ?_ | refine QW.block_r ?_))
  refine CW.region ?_
  refine OW.bs1 rfl rfl rfl rfl rfl rfl rfl (fun b9 => ?_)
  refine OW.rv (RV.assign rfl) rfl ?_
  refine OW.nil ?_
  (repeat (first | refine CW.seq ?_ | refine QW.then_n ?_ | refine CW.block ?_ | refine CW.ret ?_ | refine CW.skip ?_ | refine CW.exit ?_ | refine QW.then_x ?_ | refine QW.then_r ?_ | refine QW.block_n ?_ | refine QW.block_xe ?_ | refine QW.block_xn rfl ?_ | refine QW.block_r ?_))
  refine CW.loop (σ := Nat × Option Nat × List Value × Nat) (fun s => 1 ≤ s.1 ∧ s.1 + 8 ≤ padLen n ∧ (u8s (128#8 :: List.replicate (s.1 - 1) 0#8) ++ s.2.2.1).length = s.2.2.2 ∧ (s.2.1 = none → s.2.2.2 = 0))
    (fun s => [(0, .int .i64 n), (4, sl s.2.1 0 s.1 s.2.2.2)]) (fun s => (s.2.1, blk (u8s (128#8 :: List.replicate (s.1 - 1) 0#8) ++ s.2.2.1) 5) :: M) (fun s => padLen n - s.1) (1, some b9, [], 1)
    ⟨by omega, by omega, rfl, fun h => nomatch h⟩ ⟨rfl, rfl, trivial⟩ (fun _ m => m) ?_
  rintro ⟨j, ob, r, cap⟩ ⟨h1, h2, h3, h4⟩
  dsimp only at h1 h2 h3 h4 ⊢
  have h5 : (u8s (128#8 :: List.replicate (j - 1) 0#8)).length = j := by simp; omega
  (repeat (first | refine CW.seq ?_ | refine QW.then_n ?_ | refine CW.block ?_ | refine CW.ret ?_ | refine CW.skip ?_ | refine CW.exit ?_ | refine QW.then_x ?_ | refine QW.then_r ?_ | refine QW.block_n ?_ | refine QW.block_xe ?_ | refine QW.block_xn rfl ?_ | refine QW.block_r ?_))
  refine CW.region ?_
  refine OW.rv (RV.move rfl) rfl ?_
  (first | refine OW.rv (RV.rem rfl rfl (by omega) (by omega)) rfl ?_ | refine OW.rv (RV.trem rfl rfl (by omega)) rfl ?_)
  refine OW.rv (RV.move rfl) rfl ?_
  refine OW.rv (RV.len rfl rfl) rfl ?_
  refine OW.rv (RV.add rfl rfl (by omega)) rfl ?_
  refine OW.rv (RV.add rfl rfl (by omega)) rfl ?_
  (first | refine OW.rv (RV.rem rfl rfl (by omega) (by omega)) rfl ?_ | refine OW.rv (RV.trem rfl rfl (by omega)) rfl ?_)
  refine OW.rv (RV.neq rfl rfl) rfl ?_
  refine OW.nil ?_
  (repeat (first | refine CW.seq ?_ | refine QW.then_n ?_ | refine CW.block ?_ | refine CW.ret ?_ | refine CW.skip ?_ | refine CW.exit ?_ | refine QW.then_x ?_ | refine QW.then_r ?_ | refine QW.block_n ?_ | refine QW.block_xe ?_ | refine QW.block_xn rfl ?_ | refine QW.block_r ?_))
  (first | refine CW.cond_t rfl ?_ | refine CW.cond_f rfl ?_ | refine CW.cond_p rfl (fun hq => ?_) (fun hq => ?_) | refine CW.cond_np rfl (fun hq => ?_) (fun hq => ?_) | refine CW.cond rfl (fun hq => ?_) (fun hq => ?_))
  · (repeat (first | refine CW.seq ?_ | refine QW.then_n ?_ | refine CW.block ?_ | refine CW.ret ?_ | refine CW.skip ?_ | refine CW.exit ?_ | refine QW.then_x ?_ | refine QW.then_r ?_ | refine QW.block_n ?_ | refine QW.block_xe ?_ | refine QW.block_xn rfl ?_ | refine QW.block_r ?_))
    refine CW.region ?_
    refine OW.rv (RV.move rfl) rfl ?_
    (first | refine OW.push rfl rfl rfl rfl rfl rfl rfl rfl (by first | assumption | rfl | simp | omega) (by first | assumption | rfl | (simp; done)) (by first | assumption | exact (fun _ => rfl) | exact (fun h => nomatch h)) (by omega) (by simp only [i5]; omega) rfl rfl (fun b20 ob20 r20 cap20 hr20 hn20 => ?_) | (refine OW.rot1 ?_; refine OW.push rfl rfl rfl rfl rfl rfl rfl rfl (by first | assumption | rfl | simp | omega) (by first | assumption | rfl | (simp; done)) (by first | assumption | exact (fun _ => rfl) | exact (fun h => nomatch h)) (by omega) (by simp only [i5]; omega) rfl rfl (fun b20 ob20 r20 cap20 hr20 hn20 => ?_)) | (refine OW.rot2 ?_; refine OW.push rfl rfl rfl rfl rfl rfl rfl rfl (by first | assumption | rfl | simp | omega) (by first | assumption | rfl | (simp; done)) (by first | assumption | exact (fun _ => rfl) | exact (fun h => nomatch h)) (by omega) (by simp only [i5]; omega) rfl rfl (fun b20 ob20 r20 cap20 hr20 hn20 => ?_)) | (refine OW.rot3 ?_; refine OW.push rfl rfl rfl rfl rfl rfl rfl rfl (by first | assumption | rfl | simp | omega) (by first | assumption | rfl | (simp; done)) (by first | assumption | exact (fun _ => rfl) | exact (fun h => nomatch h)) (by omega) (by simp only [i5]; omega) rfl rfl (fun b20 ob20 r20 cap20 hr20 hn20 => ?_)))
    refine OW.rv (RV.assign rfl) rfl ?_
    refine OW.nil ?_
    (repeat (first | refine CW.seq ?_ | refine QW.then_n ?_ | refine CW.block ?_ | refine CW.ret ?_ | refine CW.skip ?_ | refine CW.exit ?_ | refine QW.then_x ?_ | refine QW.then_r ?_ | refine QW.block_n ?_ | refine QW.block_xe ?_ | refine QW.block_xn rfl ?_ | refine QW.block_r ?_))
    have e1 : u8s (128#8 :: List.replicate (j - 1) 0#8) ++ [Value.int .u8 0] = u8s (128#8 :: List.replicate (j + 1 - 1) 0#8) := by
      show u8s (128#8 :: List.replicate (j - 1) 0#8) ++ u8s [0#8] = _
      rw [u8s_app, show j + 1 - 1 = (j - 1) + 1 by omega, List.replicate_succ']
      rfl
    rw [e1] at hr20
    refine QW.again (j + 1, ob20, r20, cap20) ⟨by show 1 ≤ j + 1; omega, by show j + 1 + 8 ≤ _; omega, hr20, hn20⟩ (by show _ - (j + 1) < _ - j; omega) ⟨rfl, rfl, trivial⟩ (fun _ m => ?_)
    rw [e1] at m
    exact m
  · have hj : j = padLen n - 8 := by omega
    subst hj
    (repeat (first | refine CW.seq ?_ | refine QW.then_n ?_ | refine CW.block ?_ | refine CW.ret ?_ | refine CW.skip ?_ | refine CW.exit ?_ | refine QW.then_x ?_ | refine QW.then_r ?_ | refine QW.block_n ?_ | refine QW.block_xe ?_ | refine QW.block_xn rfl ?_ | refine QW.block_r ?_))
    refine CW.region ?_
    refine OW.rv (RV.move rfl) rfl ?_
    refine OW.rv (RV.conv_i64 rfl rfl rfl) rfl ?_
    refine OW.rv (RV.mul64 rfl (by first | rfl | exact lit64 _ rfl) rfl (by first | rfl | exact lit64 _ rfl)) rfl ?_
    refine OW.rv (RV.assign rfl) rfl ?_
    refine OW.nil ?_
    (repeat (first | refine CW.seq ?_ | refine QW.then_n ?_ | refine CW.block ?_ | refine CW.ret ?_ | refine CW.skip ?_ | refine CW.exit ?_ | refine QW.then_x ?_ | refine QW.then_r ?_ | refine QW.block_n ?_ | refine QW.block_xe ?_ | refine QW.block_xn rfl ?_ | refine QW.block_r ?_))
    (repeat (first | refine CW.seq ?_ | refine QW.then_n ?_ | refine CW.block ?_ | refine CW.ret ?_ | refine CW.skip ?_ | refine CW.exit ?_ | refine QW.then_x ?_ | refine QW.then_r ?_ | refine QW.block_n ?_ | refine QW.block_xe ?_ | refine QW.block_xn rfl ?_ | refine QW.block_r ?_))
    refine CW.region ?_
    refine OW.rv (RV.assign rfl) rfl ?_
    refine OW.nil ?_
    (repeat (first | refine CW.seq ?_ | refine QW.then_n ?_ | refine CW.block ?_ | refine CW.ret ?_ | refine CW.skip ?_ | refine CW.exit ?_ | refine QW.then_x ?_ | refine QW.then_r ?_ | refine QW.block_n ?_ | refine QW.block_xe ?_ | refine QW.block_xn rfl ?_ | refine QW.block_r ?_))
    refine CW.loop (σ := Nat × Option Nat × List Value × Nat) (fun s => s.1 ≤ 8 ∧ (u8s (128#8 :: List.replicate (padLen n - 9) 0#8 ++ beL (BitVec.ofInt 64 n * 8#64) s.1) ++ s.2.2.1).length = s.2.2.2 ∧ (s.2.1 = none → s.2.2.2 = 0))
      (fun s => [(5, U64 (BitVec.ofInt 64 n * 8#64)), (6, .int .i64 (7 - (s.1 : Int))), (4, sl s.2.1 0 (padLen n - 8 + s.1) s.2.2.2)]) (fun s => (s.2.1, blk (u8s (128#8 :: List.replicate (padLen n - 9) 0#8 ++ beL (BitVec.ofInt 64 n * 8#64) s.1) ++ s.2.2.1) 5) :: M) (fun s => 8 - s.1) (0, ob, r, cap)
      ⟨by omega, by simpa [beL, show padLen n - 8 - 1 = padLen n - 9 by omega] using h3, h4⟩ ⟨rfl, rfl, rfl, trivial⟩ (fun _ m => by simpa [beL, show padLen n - 8 - 1 = padLen n - 9 by omega] using m) ?_
    clear hq h5 h1 h2 h3 h4 ob r cap
    rintro ⟨k, ob, r, cap⟩ ⟨h1, h3, h4⟩
    dsimp only at h1 h3 h4 ⊢
    have h5 : (u8s (128#8 :: List.replicate (padLen n - 9) 0#8 ++ beL (BitVec.ofInt 64 n * 8#64) k)).length = padLen n - 8 + k := by simp [beL]; omega
    (repeat (first | refine CW.seq ?_ | refine QW.then_n ?_ | refine CW.block ?_ | refine CW.ret ?_ | refine CW.skip ?_ | refine CW.exit ?_ | refine QW.then_x ?_ | refine QW.then_r ?_ | refine QW.block_n ?_ | refine QW.block_xe ?_ | refine QW.block_xn rfl ?_ | refine QW.block_r ?_))
    refine CW.region ?_
    refine OW.rv (RV.move rfl) rfl ?_
    refine OW.rv (RV.geq rfl rfl) rfl ?_
    refine OW.nil ?_
    (repeat (first | refine CW.seq ?_ | refine QW.then_n ?_ | refine CW.block ?_ | refine CW.ret ?_ | refine CW.skip ?_ | refine CW.exit ?_ | refine QW.then_x ?_ | refine QW.then_r ?_ | refine QW.block_n ?_ | refine QW.block_xe ?_ | refine QW.block_xn rfl ?_ | refine QW.block_r ?_))
    (first | refine CW.cond_t rfl ?_ | refine CW.cond_f rfl ?_ | refine CW.cond_p rfl (fun hq => ?_) (fun hq => ?_) | refine CW.cond_np rfl (fun hq => ?_) (fun hq => ?_) | refine CW.cond rfl (fun hq => ?_) (fun hq => ?_))
    · (repeat (first | refine CW.seq ?_ | refine QW.then_n ?_ | refine CW.block ?_ | refine CW.ret ?_ | refine CW.skip ?_ | refine CW.exit ?_ | refine QW.then_x ?_ | refine QW.then_r ?_ | refine QW.block_n ?_ | refine QW.block_xe ?_ | refine QW.block_xn rfl ?_ | refine QW.block_r ?_))
      refine CW.region ?_
      refine OW.rv (RV.move rfl) rfl ?_
      refine OW.rv (RV.move rfl) rfl ?_
      refine OW.rv (RV.move rfl) rfl ?_
      refine OW.rv (RV.mul rfl rfl (by omega)) rfl ?_
      refine OW.rv (RV.conv_i64 rfl rfl rfl) rfl ?_
      (first | refine OW.rv (RV.shr64 rfl (by first | rfl | exact lit64 _ rfl) rfl rfl) rfl ?_ | refine OW.rv (RV.shr64_i rfl (by first | rfl | exact lit64 _ rfl) rfl (by omega)) rfl ?_)
      refine OW.rv (RV.conv64_8 rfl (by first | rfl | exact lit64 _ rfl) rfl rfl) rfl ?_
      (first | refine OW.push rfl rfl rfl rfl rfl rfl rfl rfl (by first | assumption | rfl | simp | omega) (by first | assumption | rfl | (simp; done)) (by first | assumption | exact (fun _ => rfl) | exact (fun h => nomatch h)) (by omega) (by simp only [i5]; omega) rfl rfl (fun b36 ob36 r36 cap36 hr36 hn36 => ?_) | (refine OW.rot1 ?_; refine OW.push rfl rfl rfl rfl rfl rfl rfl rfl (by first | assumption | rfl | simp | omega) (by first | assumption | rfl | (simp; done)) (by first | assumption | exact (fun _ => rfl) | exact (fun h => nomatch h)) (by omega) (by simp only [i5]; omega) rfl rfl (fun b36 ob36 r36 cap36 hr36 hn36 => ?_)) | (refine OW.rot2 ?_; refine OW.push rfl rfl rfl rfl rfl rfl rfl rfl (by first | assumption | rfl | simp | omega) (by first | assumption | rfl | (simp; done)) (by first | assumption | exact (fun _ => rfl) | exact (fun h => nomatch h)) (by omega) (by simp only [i5]; omega) rfl rfl (fun b36 ob36 r36 cap36 hr36 hn36 => ?_)) | (refine OW.rot3 ?_; refine OW.push rfl rfl rfl rfl rfl rfl rfl rfl (by first | assumption | rfl | simp | omega) (by first | assumption | rfl | (simp; done)) (by first | assumption | exact (fun _ => rfl) | exact (fun h => nomatch h)) (by omega) (by simp only [i5]; omega) rfl rfl (fun b36 ob36 r36 cap36 hr36 hn36 => ?_)))
      refine OW.rv (RV.assign rfl) rfl ?_
      refine OW.nil ?_
      (repeat (first | refine CW.seq ?_ | refine QW.then_n ?_ | refine CW.block ?_ | refine CW.ret ?_ | refine CW.skip ?_ | refine CW.exit ?_ | refine QW.then_x ?_ | refine QW.then_r ?_ | refine QW.block_n ?_ | refine QW.block_xe ?_ | refine QW.block_xn rfl ?_ | refine QW.block_r ?_))
      (repeat (first | refine CW.seq ?_ | refine QW.then_n ?_ | refine CW.block ?_ | refine CW.ret ?_ | refine CW.skip ?_ | refine CW.exit ?_ | refine QW.then_x ?_ | refine QW.then_r ?_ | refine QW.block_n ?_ | refine QW.block_xe ?_ | refine QW.block_xn rfl ?_ | refine QW.block_r ?_))
      refine CW.region ?_
      refine OW.rv (RV.move rfl) rfl ?_
      refine OW.rv (RV.sub rfl rfl (by omega)) rfl ?_
      refine OW.rv (RV.assign rfl) rfl ?_
      refine OW.nil ?_
      (repeat (first | refine CW.seq ?_ | refine QW.then_n ?_ | refine CW.block ?_ | refine CW.ret ?_ | refine CW.skip ?_ | refine CW.exit ?_ | refine QW.then_x ?_ | refine QW.then_r ?_ | refine QW.block_n ?_ | refine QW.block_xe ?_ | refine QW.block_xn rfl ?_ | refine QW.block_r ?_))
      have e0 : (BitVec.ofInt 64 (8 * (7 - (k : Int)))).toNat = 8 * (7 - k) := by rw [BitVec.toNat_ofInt]; omega
      have e1 : u8s (128#8 :: List.replicate (padLen n - 9) 0#8 ++ beL (BitVec.ofInt 64 n * 8#64) k) ++ [U8 (((BitVec.ofInt 64 n * 8#64) >>> (BitVec.ofInt 64 (8 * (7 - (k : Int)))).toNat).setWidth 8)] = u8s (128#8 :: List.replicate (padLen n - 9) 0#8 ++ beL (BitVec.ofInt 64 n * 8#64) (k + 1)) := by
        rw [e0, beL_succ, ← List.append_assoc, ← u8s_app _ [_]]
        rfl
      rw [e1] at hr36
      refine QW.again (k + 1, ob36, r36, cap36) ⟨by show k + 1 ≤ 8; omega, hr36, hn36⟩ (by show 8 - (k + 1) < 8 - k; omega) ⟨rfl, congrArg (fun x => some (Value.int .i64 x)) (by omega), rfl, trivial⟩ (fun _ m => ?_)
      rw [e1] at m
      exact m
    · obtain rfl : k = 8 := by omega
      (repeat (first | refine CW.seq ?_ | refine QW.then_n ?_ | refine CW.block ?_ | refine CW.ret ?_ | refine CW.skip ?_ | refine CW.exit ?_ | refine QW.then_x ?_ | refine QW.then_r ?_ | refine QW.block_n ?_ | refine QW.block_xe ?_ | refine QW.block_xn rfl ?_ | refine QW.block_r ?_))
      refine CW.region ?_
      refine OW.rv (RV.move rfl) rfl ?_
      refine OW.rv (RV.assign rfl) rfl ?_
      refine OW.rv (RV.assign rfl) rfl ?_
      refine OW.nil ?_
      (repeat (first | refine CW.seq ?_ | refine QW.then_n ?_ | refine CW.block ?_ | refine CW.ret ?_ | refine CW.skip ?_ | refine CW.exit ?_ | refine QW.then_x ?_ | refine QW.then_r ?_ | refine QW.block_n ?_ | refine QW.block_xe ?_ | refine QW.block_xn rfl ?_ | refine QW.block_r ?_))
      rw [padL_parts hL9] at h3
      refine QW.ret2 rfl (ob, r, cap) ⟨h3, h4⟩ rfl rfl ?_ (fun _ m => ?_)
      · rw [show padLen n - 8 + 8 = padLen n by omega]
      · rw [padL_parts hL9] at m; exact m
end Go.Fw.Try
