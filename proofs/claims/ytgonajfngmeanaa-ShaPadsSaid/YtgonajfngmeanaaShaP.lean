/- Part of a proof over Ytgonajfngmeanaa: rules and contracts that the law's text uses. No condition. -/
import Derived.Test.YtgonajfngmeanaaShaAp
namespace Go.Fw.Try
open Go Go.Proofs
set_option maxRecDepth 100000
set_option linter.unusedVariables false

theorem pads_neg (w0 : World) (n : Int) (h : n < 0) : Does Try.prog 3 [.int .i64 n] w0 [] (τ := Unit) (fun _ => True) (fun _ => .bool true) (fun _ => []) := by
  have h57 : padLen 7 = 57 := by decide
  refine Does.enter Try.func3 rfl Try.ntmps3 rfl ?_
  (repeat (first | refine CW.seq ?_ | refine QW.then_n ?_ | refine CW.block ?_ | refine CW.ret ?_ | refine CW.skip ?_ | refine CW.exit ?_ | refine QW.then_x ?_ | refine QW.then_r ?_ | refine QW.block_n ?_ | refine QW.block_xe ?_ | refine QW.block_xn rfl ?_ | refine QW.block_r ?_))
  refine CW.region ?_
  refine OW.rv (RV.assign rfl) rfl ?_
  refine OW.nil ?_
  (repeat (first | refine CW.seq ?_ | refine QW.then_n ?_ | refine CW.block ?_ | refine CW.ret ?_ | refine CW.skip ?_ | refine CW.exit ?_ | refine QW.then_x ?_ | refine QW.then_r ?_ | refine QW.block_n ?_ | refine QW.block_xe ?_ | refine QW.block_xn rfl ?_ | refine QW.block_r ?_))
  (repeat (first | refine CW.seq ?_ | refine QW.then_n ?_ | refine CW.block ?_ | refine CW.ret ?_ | refine CW.skip ?_ | refine CW.exit ?_ | refine QW.then_x ?_ | refine QW.then_r ?_ | refine QW.block_n ?_ | refine QW.block_xe ?_ | refine QW.block_xn rfl ?_ | refine QW.block_r ?_))
  refine CW.region ?_
  refine OW.rv (RV.move rfl) rfl ?_
  refine OW.call Try.call5 rfl (pad_neg _ _ n h) rfl (fun _ _ => ?_)
  refine OW.rv (RV.move rfl) rfl ?_
  refine OW.rv (RV.extract rfl rfl) rfl ?_
  refine OW.rv (RV.extract rfl rfl) rfl ?_
  refine OW.rv (RV.assign rfl) rfl ?_
  refine OW.rv (RV.assign rfl) rfl ?_
  refine OW.nil ?_
  (repeat (first | refine CW.seq ?_ | refine QW.then_n ?_ | refine CW.block ?_ | refine CW.ret ?_ | refine CW.skip ?_ | refine CW.exit ?_ | refine QW.then_x ?_ | refine QW.then_r ?_ | refine QW.block_n ?_ | refine QW.block_xe ?_ | refine QW.block_xn rfl ?_ | refine QW.block_r ?_))
  (repeat (first | refine CW.seq ?_ | refine QW.then_n ?_ | refine CW.block ?_ | refine CW.ret ?_ | refine CW.skip ?_ | refine CW.exit ?_ | refine QW.then_x ?_ | refine QW.then_r ?_ | refine QW.block_n ?_ | refine QW.block_xe ?_ | refine QW.block_xn rfl ?_ | refine QW.block_r ?_))
  refine CW.region ?_
  refine OW.rv (RV.move rfl) rfl ?_
  refine OW.call Try.call6 rfl (rpad_neg _ _ n h) rfl (fun _ _ => ?_)
  refine OW.rv (RV.move rfl) rfl ?_
  refine OW.rv (RV.extract rfl rfl) rfl ?_
  refine OW.rv (RV.extract rfl rfl) rfl ?_
  refine OW.rv (RV.assign rfl) rfl ?_
  refine OW.rv (RV.assign rfl) rfl ?_
  refine OW.nil ?_
  (repeat (first | refine CW.seq ?_ | refine QW.then_n ?_ | refine CW.block ?_ | refine CW.ret ?_ | refine CW.skip ?_ | refine CW.exit ?_ | refine QW.then_x ?_ | refine QW.then_r ?_ | refine QW.block_n ?_ | refine QW.block_xe ?_ | refine QW.block_xn rfl ?_ | refine QW.block_r ?_))
  (repeat (first | refine CW.seq ?_ | refine QW.then_n ?_ | refine CW.block ?_ | refine CW.ret ?_ | refine CW.skip ?_ | refine CW.exit ?_ | refine QW.then_x ?_ | refine QW.then_r ?_ | refine QW.block_n ?_ | refine QW.block_xe ?_ | refine QW.block_xn rfl ?_ | refine QW.block_r ?_))
  refine CW.region ?_
  refine OW.rv (RV.move rfl) rfl ?_
  refine OW.rv (RV.move rfl) rfl ?_
  refine OW.call Try.call7 rfl (same_true _ _ none none 0 0 [] (fun w _ => Rd.nil w none) (fun w _ => Rd.nil w none) rfl rfl (by omega)) rfl (fun _ _ => ?_)
  refine OW.rv (RV.not rfl) rfl ?_
  refine OW.rv (RV.move rfl) rfl ?_
  (first | (refine OW.want rfl ?_; refine OW.rv (RV.move rfl) rfl ?_) | refine OW.skip rfl rfl rfl ?_)
  (first | (refine OW.want rfl ?_; refine OW.call Try.call8 rfl (num_does _ _ _) rfl (fun _ _ => ?_)) | refine OW.skip rfl rfl rfl ?_)
  (first | (refine OW.want rfl ?_; refine OW.rv (RV.move rfl) rfl ?_) | refine OW.skip rfl rfl rfl ?_)
  (first | (refine OW.want rfl ?_; (first | refine OW.rv (RV.neq_t rfl rfl (by omega)) rfl ?_ | refine OW.rv (RV.neq_f rfl rfl (by omega)) rfl ?_ | refine OW.rv (RV.neq rfl rfl) rfl ?_)) | refine OW.skip rfl rfl rfl ?_)
  (first | refine OW.rv (RV.pick_t rfl rfl rfl) rfl ?_ | refine OW.rv (RV.pick_f rfl rfl rfl) rfl ?_ | refine OW.rv (RV.pick rfl rfl rfl) rfl ?_)
  refine OW.nil ?_
  (repeat (first | refine CW.seq ?_ | refine QW.then_n ?_ | refine CW.block ?_ | refine CW.ret ?_ | refine CW.skip ?_ | refine CW.exit ?_ | refine QW.then_x ?_ | refine QW.then_r ?_ | refine QW.block_n ?_ | refine QW.block_xe ?_ | refine QW.block_xn rfl ?_ | refine QW.block_r ?_))
  (first | refine CW.cond_t rfl ?_ | refine CW.cond_f rfl ?_ | refine CW.cond_p rfl (fun hq => ?_) (fun hq => ?_) | refine CW.cond_np rfl (fun hq => ?_) (fun hq => ?_) | refine CW.cond rfl (fun hq => ?_) (fun hq => ?_))
  (repeat (first | refine CW.seq ?_ | refine QW.then_n ?_ | refine CW.block ?_ | refine CW.ret ?_ | refine CW.skip ?_ | refine CW.exit ?_ | refine QW.then_x ?_ | refine QW.then_r ?_ | refine QW.block_n ?_ | refine QW.block_xe ?_ | refine QW.block_xn rfl ?_ | refine QW.block_r ?_))
  refine CW.region ?_
  refine OW.rv (RV.move rfl) rfl ?_
  refine OW.call Try.call5 rfl (pad_neg _ _ n h) rfl (fun _ _ => ?_)
  refine OW.rv (RV.move rfl) rfl ?_
  refine OW.rv (RV.extract rfl rfl) rfl ?_
  refine OW.rv (RV.extract rfl rfl) rfl ?_
  refine OW.rv (RV.assign rfl) rfl ?_
  refine OW.rv (RV.assign rfl) rfl ?_
  refine OW.nil ?_
  (repeat (first | refine CW.seq ?_ | refine QW.then_n ?_ | refine CW.block ?_ | refine CW.ret ?_ | refine CW.skip ?_ | refine CW.exit ?_ | refine QW.then_x ?_ | refine QW.then_r ?_ | refine QW.block_n ?_ | refine QW.block_xe ?_ | refine QW.block_xn rfl ?_ | refine QW.block_r ?_))
  (repeat (first | refine CW.seq ?_ | refine QW.then_n ?_ | refine CW.block ?_ | refine CW.ret ?_ | refine CW.skip ?_ | refine CW.exit ?_ | refine QW.then_x ?_ | refine QW.then_r ?_ | refine QW.block_n ?_ | refine QW.block_xe ?_ | refine QW.block_xn rfl ?_ | refine QW.block_r ?_))
  refine CW.region ?_
  refine OW.call Try.call5 rfl (pad_does _ _ 7 (by omega) (by omega)) rfl (fun b37 _ => ?_)
  refine OW.rv (RV.move rfl) rfl ?_
  refine OW.rv (RV.extract rfl rfl) rfl ?_
  refine OW.rv (RV.extract rfl rfl) rfl ?_
  refine OW.rv (RV.assign rfl) rfl ?_
  refine OW.rv (RV.assign rfl) rfl ?_
  refine OW.nil ?_
  (repeat (first | refine CW.seq ?_ | refine QW.then_n ?_ | refine CW.block ?_ | refine CW.ret ?_ | refine CW.skip ?_ | refine CW.exit ?_ | refine QW.then_x ?_ | refine QW.then_r ?_ | refine QW.block_n ?_ | refine QW.block_xe ?_ | refine QW.block_xn rfl ?_ | refine QW.block_r ?_))
  (repeat (first | refine CW.seq ?_ | refine QW.then_n ?_ | refine CW.block ?_ | refine CW.ret ?_ | refine CW.skip ?_ | refine CW.exit ?_ | refine QW.then_x ?_ | refine QW.then_r ?_ | refine QW.block_n ?_ | refine QW.block_xe ?_ | refine QW.block_xn rfl ?_ | refine QW.block_r ?_))
  refine CW.region ?_
  refine OW.rv (RV.move rfl) rfl ?_
  refine OW.rv (RV.move rfl) rfl ?_
  refine OW.call Try.call7 rfl (same_true _ _ none none 0 0 [] (fun w _ => Rd.nil w none) (fun w _ => Rd.nil w none) rfl rfl (by omega)) rfl (fun _ _ => ?_)
  refine OW.rv (RV.not rfl) rfl ?_
  refine OW.rv (RV.move rfl) rfl ?_
  (first | (refine OW.want rfl ?_; refine OW.rv (RV.move rfl) rfl ?_) | refine OW.skip rfl rfl rfl ?_)
  (first | (refine OW.want rfl ?_; refine OW.call Try.call8 rfl (num_does _ _ _) rfl (fun _ _ => ?_)) | refine OW.skip rfl rfl rfl ?_)
  (first | (refine OW.want rfl ?_; refine OW.rv (RV.move rfl) rfl ?_) | refine OW.skip rfl rfl rfl ?_)
  (first | (refine OW.want rfl ?_; (first | refine OW.rv (RV.neq_t rfl rfl (by omega)) rfl ?_ | refine OW.rv (RV.neq_f rfl rfl (by omega)) rfl ?_ | refine OW.rv (RV.neq rfl rfl) rfl ?_)) | refine OW.skip rfl rfl rfl ?_)
  (first | refine OW.rv (RV.pick_t rfl rfl rfl) rfl ?_ | refine OW.rv (RV.pick_f rfl rfl rfl) rfl ?_ | refine OW.rv (RV.pick rfl rfl rfl) rfl ?_)
  refine OW.rv (RV.move rfl) rfl ?_
  (first | (refine OW.want rfl ?_; refine OW.rv (RV.move rfl) rfl ?_) | refine OW.skip rfl rfl rfl ?_)
  (first | (refine OW.want rfl ?_; (first | refine OW.rv (RV.neq_t rfl rfl (by omega)) rfl ?_ | refine OW.rv (RV.neq_f rfl rfl (by omega)) rfl ?_ | refine OW.rv (RV.neq rfl rfl) rfl ?_)) | refine OW.skip rfl rfl rfl ?_)
  (first | refine OW.rv (RV.pick_t rfl rfl rfl) rfl ?_ | refine OW.rv (RV.pick_f rfl rfl rfl) rfl ?_ | refine OW.rv (RV.pick rfl rfl rfl) rfl ?_)
  refine OW.rv (RV.move rfl) rfl ?_
  (first | (refine OW.want rfl ?_; refine OW.rv (RV.move rfl) rfl ?_) | refine OW.skip rfl rfl rfl ?_)
  (first | (refine OW.want rfl ?_; refine OW.rv (RV.len rfl rfl) rfl ?_) | refine OW.skip rfl rfl rfl ?_)
  (first | (refine OW.want rfl ?_; (first | refine OW.rv (RV.neq_t rfl rfl (by omega)) rfl ?_ | refine OW.rv (RV.neq_f rfl rfl (by omega)) rfl ?_ | refine OW.rv (RV.neq rfl rfl) rfl ?_)) | refine OW.skip rfl rfl rfl ?_)
  (first | refine OW.rv (RV.pick_t rfl rfl rfl) rfl ?_ | refine OW.rv (RV.pick_f rfl rfl rfl) rfl ?_ | refine OW.rv (RV.pick rfl rfl rfl) rfl ?_)
  refine OW.nil ?_
  (repeat (first | refine CW.seq ?_ | refine QW.then_n ?_ | refine CW.block ?_ | refine CW.ret ?_ | refine CW.skip ?_ | refine CW.exit ?_ | refine QW.then_x ?_ | refine QW.then_r ?_ | refine QW.block_n ?_ | refine QW.block_xe ?_ | refine QW.block_xn rfl ?_ | refine QW.block_r ?_))
  (first | refine CW.cond_t rfl ?_ | refine CW.cond_f rfl ?_ | refine CW.cond_p rfl (fun hq => ?_) (fun hq => ?_) | refine CW.cond_np rfl (fun hq => ?_) (fun hq => ?_) | refine CW.cond rfl (fun hq => ?_) (fun hq => ?_))
  have hap := fun b62 => apart3 w0 [] b62 none none (some b37) 0 0 (padLen 7) [] [] (padL 7) rfl rfl (padL_length 7) (fun _ => rfl) (fun _ => rfl) (fun h => nomatch h) (by omega) (by omega) (by omega)
  refine CW.mem (M' := (none, blk (u8s []) 5) :: (none, blk (u8s []) 5) :: [(some b37, blk (u8s (padL 7)) 5)]) (fun _ m => (m.nil_ent _).nil_ent _) ?_
  (repeat (first | refine CW.seq ?_ | refine QW.then_n ?_ | refine CW.block ?_ | refine CW.ret ?_ | refine CW.skip ?_ | refine CW.exit ?_ | refine QW.then_x ?_ | refine QW.then_r ?_ | refine QW.block_n ?_ | refine QW.block_xe ?_ | refine QW.block_xn rfl ?_ | refine QW.block_r ?_))
  refine CW.region ?_
  refine OW.rv (RV.move rfl) rfl ?_
  refine OW.rv (RV.move rfl) rfl ?_
  refine OW.rv (RV.move rfl) rfl ?_
  refine OW.bsN rfl rfl rfl (by decide) (by decide) rfl rfl rfl rfl rfl (fun b62 => ?_)
  refine OW.call Try.call9 rfl (hap b62) rfl (fun _ _ => ?_)
  refine OW.rv (RV.assign rfl) rfl ?_
  refine OW.nil ?_
  (repeat (first | refine CW.seq ?_ | refine QW.then_n ?_ | refine CW.block ?_ | refine CW.ret ?_ | refine CW.skip ?_ | refine CW.exit ?_ | refine QW.then_x ?_ | refine QW.then_r ?_ | refine QW.block_n ?_ | refine QW.block_xe ?_ | refine QW.block_xn rfl ?_ | refine QW.block_r ?_))
  exact QW.ret1 rfl () trivial rfl (fun _ m => m)

theorem pads_does (w0 : World) (n : Int) (h : 0 ≤ n) (hm : n ≤ 9223372036854775807) : Does Try.prog 3 [.int .i64 n] w0 [] (τ := Unit) (fun _ => True) (fun _ => .bool true) (fun _ => []) := by
  have h57 : padLen 7 = 57 := by decide
  have hL72 : padLen n ≤ 72 := by unfold padLen; omega
  have hL9 : 9 ≤ padLen n := by unfold padLen; omega
  refine Does.enter Try.func3 rfl Try.ntmps3 rfl ?_
  (repeat (first | refine CW.seq ?_ | refine QW.then_n ?_ | refine CW.block ?_ | refine CW.ret ?_ | refine CW.skip ?_ | refine CW.exit ?_ | refine QW.then_x ?_ | refine QW.then_r ?_ | refine QW.block_n ?_ | refine QW.block_xe ?_ | refine QW.block_xn rfl ?_ | refine QW.block_r ?_))
  refine CW.region ?_
  refine OW.rv (RV.assign rfl) rfl ?_
  refine OW.nil ?_
  (repeat (first | refine CW.seq ?_ | refine QW.then_n ?_ | refine CW.block ?_ | refine CW.ret ?_ | refine CW.skip ?_ | refine CW.exit ?_ | refine QW.then_x ?_ | refine QW.then_r ?_ | refine QW.block_n ?_ | refine QW.block_xe ?_ | refine QW.block_xn rfl ?_ | refine QW.block_r ?_))
  (repeat (first | refine CW.seq ?_ | refine QW.then_n ?_ | refine CW.block ?_ | refine CW.ret ?_ | refine CW.skip ?_ | refine CW.exit ?_ | refine QW.then_x ?_ | refine QW.then_r ?_ | refine QW.block_n ?_ | refine QW.block_xe ?_ | refine QW.block_xn rfl ?_ | refine QW.block_r ?_))
  refine CW.region ?_
  refine OW.rv (RV.move rfl) rfl ?_
  refine OW.call Try.call5 rfl (pad_does _ _ n h hm) rfl (fun b13 _ => ?_)
  refine OW.rv (RV.move rfl) rfl ?_
  refine OW.rv (RV.extract rfl rfl) rfl ?_
  refine OW.rv (RV.extract rfl rfl) rfl ?_
  refine OW.rv (RV.assign rfl) rfl ?_
  refine OW.rv (RV.assign rfl) rfl ?_
  refine OW.nil ?_
  (repeat (first | refine CW.seq ?_ | refine QW.then_n ?_ | refine CW.block ?_ | refine CW.ret ?_ | refine CW.skip ?_ | refine CW.exit ?_ | refine QW.then_x ?_ | refine QW.then_r ?_ | refine QW.block_n ?_ | refine QW.block_xe ?_ | refine QW.block_xn rfl ?_ | refine QW.block_r ?_))
  (repeat (first | refine CW.seq ?_ | refine QW.then_n ?_ | refine CW.block ?_ | refine CW.ret ?_ | refine CW.skip ?_ | refine CW.exit ?_ | refine QW.then_x ?_ | refine QW.then_r ?_ | refine QW.block_n ?_ | refine QW.block_xe ?_ | refine QW.block_xn rfl ?_ | refine QW.block_r ?_))
  refine CW.region ?_
  refine OW.rv (RV.move rfl) rfl ?_
  refine OW.call Try.call6 rfl (rpad_does _ _ n h hm) rfl (fun q hq => ?_)
  refine OW.rv (RV.move rfl) rfl ?_
  refine OW.rv (RV.extract rfl rfl) rfl ?_
  refine OW.rv (RV.extract rfl rfl) rfl ?_
  refine OW.rv (RV.assign rfl) rfl ?_
  refine OW.rv (RV.assign rfl) rfl ?_
  refine OW.nil ?_
  (repeat (first | refine CW.seq ?_ | refine QW.then_n ?_ | refine CW.block ?_ | refine CW.ret ?_ | refine CW.skip ?_ | refine CW.exit ?_ | refine QW.then_x ?_ | refine QW.then_r ?_ | refine QW.block_n ?_ | refine QW.block_xe ?_ | refine QW.block_xn rfl ?_ | refine QW.block_r ?_))
  obtain ⟨ob, r, cap⟩ := q
  obtain ⟨hr, hn⟩ := hq
  dsimp only at hr hn ⊢
  have hnn : ob = none → u8s (padL n) = [] := fun e => by
    have := hn e
    rw [this] at hr
    exact List.length_eq_zero_iff.1 (by simp at hr; omega)
  have hA : Mem.Says w0 ((ob, blk (u8s (padL n) ++ r) 5) :: (some b13, blk (u8s (padL n)) 5) :: []) (fun w => Rd w (some ⟨b13, 0, none⟩) (u8s (padL n))) := fun w m => m.rdl (ob := some b13) (t := 5) (by simp) (fun h => by cases h)
  have hB : Mem.Says w0 ((ob, blk (u8s (padL n) ++ r) 5) :: (some b13, blk (u8s (padL n)) 5) :: []) (fun w => Rd w (ob.map fun k => ⟨k, 0, none⟩) (u8s (padL n))) := fun w m => m.rd0 (r := r) (t := 5) (by simp) hnn
  (repeat (first | refine CW.seq ?_ | refine QW.then_n ?_ | refine CW.block ?_ | refine CW.ret ?_ | refine CW.skip ?_ | refine CW.exit ?_ | refine QW.then_x ?_ | refine QW.then_r ?_ | refine QW.block_n ?_ | refine QW.block_xe ?_ | refine QW.block_xn rfl ?_ | refine QW.block_r ?_))
  refine CW.region ?_
  refine OW.rv (RV.move rfl) rfl ?_
  refine OW.rv (RV.move rfl) rfl ?_
  refine OW.call Try.call7 rfl (same_true _ _ _ _ _ _ _ hA hB (padL_length n) (padL_length n) (by omega)) rfl (fun _ _ => ?_)
  refine OW.rv (RV.not rfl) rfl ?_
  refine OW.rv (RV.move rfl) rfl ?_
  (first | (refine OW.want rfl ?_; refine OW.rv (RV.move rfl) rfl ?_) | refine OW.skip rfl rfl rfl ?_)
  (first | (refine OW.want rfl ?_; refine OW.call Try.call8 rfl (num_does _ _ _) rfl (fun _ _ => ?_)) | refine OW.skip rfl rfl rfl ?_)
  (first | (refine OW.want rfl ?_; refine OW.rv (RV.move rfl) rfl ?_) | refine OW.skip rfl rfl rfl ?_)
  (first | (refine OW.want rfl ?_; (first | refine OW.rv (RV.neq_t rfl rfl (by omega)) rfl ?_ | refine OW.rv (RV.neq_f rfl rfl (by omega)) rfl ?_ | refine OW.rv (RV.neq rfl rfl) rfl ?_)) | refine OW.skip rfl rfl rfl ?_)
  (first | refine OW.rv (RV.pick_t rfl rfl rfl) rfl ?_ | refine OW.rv (RV.pick_f rfl rfl rfl) rfl ?_ | refine OW.rv (RV.pick rfl rfl rfl) rfl ?_)
  refine OW.nil ?_
  (repeat (first | refine CW.seq ?_ | refine QW.then_n ?_ | refine CW.block ?_ | refine CW.ret ?_ | refine CW.skip ?_ | refine CW.exit ?_ | refine QW.then_x ?_ | refine QW.then_r ?_ | refine QW.block_n ?_ | refine QW.block_xe ?_ | refine QW.block_xn rfl ?_ | refine QW.block_r ?_))
  (first | refine CW.cond_t rfl ?_ | refine CW.cond_f rfl ?_ | refine CW.cond_p rfl (fun hq => ?_) (fun hq => ?_) | refine CW.cond_np rfl (fun hq => ?_) (fun hq => ?_) | refine CW.cond rfl (fun hq => ?_) (fun hq => ?_))
  (repeat (first | refine CW.seq ?_ | refine QW.then_n ?_ | refine CW.block ?_ | refine CW.ret ?_ | refine CW.skip ?_ | refine CW.exit ?_ | refine QW.then_x ?_ | refine QW.then_r ?_ | refine QW.block_n ?_ | refine QW.block_xe ?_ | refine QW.block_xn rfl ?_ | refine QW.block_r ?_))
  refine CW.region ?_
  refine OW.rv (RV.move rfl) rfl ?_
  refine OW.call Try.call5 rfl (pad_does _ _ n h hm) rfl (fun b33 _ => ?_)
  refine OW.rv (RV.move rfl) rfl ?_
  refine OW.rv (RV.extract rfl rfl) rfl ?_
  refine OW.rv (RV.extract rfl rfl) rfl ?_
  refine OW.rv (RV.assign rfl) rfl ?_
  refine OW.rv (RV.assign rfl) rfl ?_
  refine OW.nil ?_
  (repeat (first | refine CW.seq ?_ | refine QW.then_n ?_ | refine CW.block ?_ | refine CW.ret ?_ | refine CW.skip ?_ | refine CW.exit ?_ | refine QW.then_x ?_ | refine QW.then_r ?_ | refine QW.block_n ?_ | refine QW.block_xe ?_ | refine QW.block_xn rfl ?_ | refine QW.block_r ?_))
  (repeat (first | refine CW.seq ?_ | refine QW.then_n ?_ | refine CW.block ?_ | refine CW.ret ?_ | refine CW.skip ?_ | refine CW.exit ?_ | refine QW.then_x ?_ | refine QW.then_r ?_ | refine QW.block_n ?_ | refine QW.block_xe ?_ | refine QW.block_xn rfl ?_ | refine QW.block_r ?_))
  refine CW.region ?_
  refine OW.call Try.call5 rfl (pad_does _ _ 7 (by omega) (by omega)) rfl (fun b37 _ => ?_)
  refine OW.rv (RV.move rfl) rfl ?_
  refine OW.rv (RV.extract rfl rfl) rfl ?_
  refine OW.rv (RV.extract rfl rfl) rfl ?_
  refine OW.rv (RV.assign rfl) rfl ?_
  refine OW.rv (RV.assign rfl) rfl ?_
  refine OW.nil ?_
  (repeat (first | refine CW.seq ?_ | refine QW.then_n ?_ | refine CW.block ?_ | refine CW.ret ?_ | refine CW.skip ?_ | refine CW.exit ?_ | refine QW.then_x ?_ | refine QW.then_r ?_ | refine QW.block_n ?_ | refine QW.block_xe ?_ | refine QW.block_xn rfl ?_ | refine QW.block_r ?_))
  have hA2 : Mem.Says w0 ((some b37, blk (u8s (padL 7)) 5) :: (some b33, blk (u8s (padL n)) 5) :: (ob, blk (u8s (padL n) ++ r) 5) :: (some b13, blk (u8s (padL n)) 5) :: []) (fun w => Rd w (some ⟨b33, 0, none⟩) (u8s (padL n))) := fun w m => m.rdl (ob := some b33) (t := 5) (by simp) (fun h => by cases h)
  (repeat (first | refine CW.seq ?_ | refine QW.then_n ?_ | refine CW.block ?_ | refine CW.ret ?_ | refine CW.skip ?_ | refine CW.exit ?_ | refine QW.then_x ?_ | refine QW.then_r ?_ | refine QW.block_n ?_ | refine QW.block_xe ?_ | refine QW.block_xn rfl ?_ | refine QW.block_r ?_))
  refine CW.region ?_
  refine OW.rv (RV.move rfl) rfl ?_
  refine OW.rv (RV.move rfl) rfl ?_
  refine OW.call Try.call7 rfl (same_true _ _ _ _ _ _ _ hA2 hB.cons.cons (padL_length n) (padL_length n) (by omega)) rfl (fun _ _ => ?_)
  refine OW.rv (RV.not rfl) rfl ?_
  refine OW.rv (RV.move rfl) rfl ?_
  (first | (refine OW.want rfl ?_; refine OW.rv (RV.move rfl) rfl ?_) | refine OW.skip rfl rfl rfl ?_)
  (first | (refine OW.want rfl ?_; refine OW.call Try.call8 rfl (num_does _ _ _) rfl (fun _ _ => ?_)) | refine OW.skip rfl rfl rfl ?_)
  (first | (refine OW.want rfl ?_; refine OW.rv (RV.move rfl) rfl ?_) | refine OW.skip rfl rfl rfl ?_)
  (first | (refine OW.want rfl ?_; (first | refine OW.rv (RV.neq_t rfl rfl (by omega)) rfl ?_ | refine OW.rv (RV.neq_f rfl rfl (by omega)) rfl ?_ | refine OW.rv (RV.neq rfl rfl) rfl ?_)) | refine OW.skip rfl rfl rfl ?_)
  (first | refine OW.rv (RV.pick_t rfl rfl rfl) rfl ?_ | refine OW.rv (RV.pick_f rfl rfl rfl) rfl ?_ | refine OW.rv (RV.pick rfl rfl rfl) rfl ?_)
  refine OW.rv (RV.move rfl) rfl ?_
  (first | (refine OW.want rfl ?_; refine OW.rv (RV.move rfl) rfl ?_) | refine OW.skip rfl rfl rfl ?_)
  (first | (refine OW.want rfl ?_; (first | refine OW.rv (RV.neq_t rfl rfl (by omega)) rfl ?_ | refine OW.rv (RV.neq_f rfl rfl (by omega)) rfl ?_ | refine OW.rv (RV.neq rfl rfl) rfl ?_)) | refine OW.skip rfl rfl rfl ?_)
  (first | refine OW.rv (RV.pick_t rfl rfl rfl) rfl ?_ | refine OW.rv (RV.pick_f rfl rfl rfl) rfl ?_ | refine OW.rv (RV.pick rfl rfl rfl) rfl ?_)
  refine OW.rv (RV.move rfl) rfl ?_
  (first | (refine OW.want rfl ?_; refine OW.rv (RV.move rfl) rfl ?_) | refine OW.skip rfl rfl rfl ?_)
  (first | (refine OW.want rfl ?_; refine OW.rv (RV.len rfl rfl) rfl ?_) | refine OW.skip rfl rfl rfl ?_)
  (first | (refine OW.want rfl ?_; (first | refine OW.rv (RV.neq_t rfl rfl (by omega)) rfl ?_ | refine OW.rv (RV.neq_f rfl rfl (by omega)) rfl ?_ | refine OW.rv (RV.neq rfl rfl) rfl ?_)) | refine OW.skip rfl rfl rfl ?_)
  (first | refine OW.rv (RV.pick_t rfl rfl rfl) rfl ?_ | refine OW.rv (RV.pick_f rfl rfl rfl) rfl ?_ | refine OW.rv (RV.pick rfl rfl rfl) rfl ?_)
  refine OW.nil ?_
  (repeat (first | refine CW.seq ?_ | refine QW.then_n ?_ | refine CW.block ?_ | refine CW.ret ?_ | refine CW.skip ?_ | refine CW.exit ?_ | refine QW.then_x ?_ | refine QW.then_r ?_ | refine QW.block_n ?_ | refine QW.block_xe ?_ | refine QW.block_xn rfl ?_ | refine QW.block_r ?_))
  (first | refine CW.cond_t rfl ?_ | refine CW.cond_f rfl ?_ | refine CW.cond_p rfl (fun hq => ?_) (fun hq => ?_) | refine CW.cond_np rfl (fun hq => ?_) (fun hq => ?_) | refine CW.cond rfl (fun hq => ?_) (fun hq => ?_))
  have hap := fun b62 => apart3 w0 [(ob, blk (u8s (padL n) ++ r) 5)] b62 (some b13) (some b33) (some b37) (padLen n) (padLen n) (padLen 7) (padL n) (padL n) (padL 7) (padL_length n) (padL_length n) (padL_length 7) (fun h => nomatch h) (fun h => nomatch h) (fun h => nomatch h) (by omega) (by omega) (by omega)
  refine CW.mem (M' := (some b13, blk (u8s (padL n)) 5) :: (some b33, blk (u8s (padL n)) 5) :: (some b37, blk (u8s (padL 7)) 5) :: [(ob, blk (u8s (padL n) ++ r) 5)]) (fun _ m => m.rot1.rot3) ?_
  (repeat (first | refine CW.seq ?_ | refine QW.then_n ?_ | refine CW.block ?_ | refine CW.ret ?_ | refine CW.skip ?_ | refine CW.exit ?_ | refine QW.then_x ?_ | refine QW.then_r ?_ | refine QW.block_n ?_ | refine QW.block_xe ?_ | refine QW.block_xn rfl ?_ | refine QW.block_r ?_))
  refine CW.region ?_
  refine OW.rv (RV.move rfl) rfl ?_
  refine OW.rv (RV.move rfl) rfl ?_
  refine OW.rv (RV.move rfl) rfl ?_
  refine OW.bsN rfl rfl rfl (by decide) (by decide) rfl rfl rfl rfl rfl (fun b62 => ?_)
  refine OW.call Try.call9 rfl (hap b62) rfl (fun _ _ => ?_)
  refine OW.rv (RV.assign rfl) rfl ?_
  refine OW.nil ?_
  (repeat (first | refine CW.seq ?_ | refine QW.then_n ?_ | refine CW.block ?_ | refine CW.ret ?_ | refine CW.skip ?_ | refine CW.exit ?_ | refine QW.then_x ?_ | refine QW.then_r ?_ | refine QW.block_n ?_ | refine QW.block_xe ?_ | refine QW.block_xn rfl ?_ | refine QW.block_r ?_))
  exact QW.ret1 rfl () trivial rfl (fun _ m => m.tail)
end Go.Fw.Try
