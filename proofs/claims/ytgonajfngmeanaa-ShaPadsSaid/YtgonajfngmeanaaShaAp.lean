/- Part of a proof over Ytgonajfngmeanaa: rules and contracts that the law's text uses. No condition. -/
import Derived.Test.YtgonajfngmeanaaShaR
namespace Go.Fw.Try
open Go Go.Proofs
set_option maxRecDepth 100000
set_option linter.unusedVariables false

theorem mark_step (x : List (BitVec 8)) (v : BitVec 8) {k : Nat} (h : k < x.length) : (u8s (List.replicate k v ++ x.drop k)).set (0 + k) (U8 v) = u8s (List.replicate (k + 1) v ++ x.drop (k + 1)) := by
  rw [u8s_set, Nat.zero_add]
  congr 1
  rw [List.set_append, if_neg (by simp)]
  simp only [List.length_replicate, Nat.sub_self]
  rw [List.drop_eq_getElem_cons h, List.set_cons_zero, List.replicate_succ', List.append_assoc]
  rfl

theorem apart3 (w0 : World) (M : List Ent) (bl : Nat) (o0 o1 o2 : Option Nat) (n0 n1 n2 : Nat) (x0 x1 x2 : List (BitVec 8)) (hx0 : x0.length = n0) (hx1 : x1.length = n1) (hx2 : x2.length = n2)
    (hn0 : o0 = none → n0 = 0) (hn1 : o1 = none → n1 = 0) (hn2 : o2 = none → n2 = 0) (hb0 : n0 ≤ 1000) (hb1 : n1 ≤ 1000) (hb2 : n2 ≤ 1000) :
    Does Try.prog 9 [sl (some bl) 0 3 3] w0 ((some bl, blk [sl o0 0 n0 n0, sl o1 0 n1 n1, sl o2 0 n2 n2] 22) :: (o0, blk (u8s x0) 5) :: (o1, blk (u8s x1) 5) :: (o2, blk (u8s x2) 5) :: M) (τ := Unit) (fun _ => True) (fun _ => .bool true) (fun _ => M) := by
  refine Does.enter Try.func9 rfl Try.ntmps9 rfl ?_
  (repeat (first | refine CW.seq ?_ | refine QW.then_n ?_ | refine CW.block ?_ | refine CW.ret ?_ | refine CW.skip ?_ | refine CW.exit ?_ | refine QW.then_x ?_ | refine QW.then_r ?_ | refine QW.block_n ?_ | refine QW.block_xe ?_ | refine QW.block_xn rfl ?_ | refine QW.block_r ?_))
  refine CW.region ?_
  refine OW.rv (RV.assign rfl) rfl ?_
  refine OW.nil ?_
  (repeat (first | refine CW.seq ?_ | refine QW.then_n ?_ | refine CW.block ?_ | refine CW.ret ?_ | refine CW.skip ?_ | refine CW.exit ?_ | refine QW.then_x ?_ | refine QW.then_r ?_ | refine QW.block_n ?_ | refine QW.block_xe ?_ | refine QW.block_xn rfl ?_ | refine QW.block_r ?_))
  (repeat (first | refine CW.seq ?_ | refine QW.then_n ?_ | refine CW.block ?_ | refine CW.ret ?_ | refine CW.skip ?_ | refine CW.exit ?_ | refine QW.then_x ?_ | refine QW.then_r ?_ | refine QW.block_n ?_ | refine QW.block_xe ?_ | refine QW.block_xn rfl ?_ | refine QW.block_r ?_))
  refine CW.region ?_
  refine OW.rv (RV.assign rfl) rfl ?_
  refine OW.nil ?_
  (repeat (first | refine CW.seq ?_ | refine QW.then_n ?_ | refine CW.block ?_ | refine CW.ret ?_ | refine CW.skip ?_ | refine CW.exit ?_ | refine QW.then_x ?_ | refine QW.then_r ?_ | refine QW.block_n ?_ | refine QW.block_xe ?_ | refine QW.block_xn rfl ?_ | refine QW.block_r ?_))
  refine CW.loopN 4 ?_
  refine RW.succ ?_
  (repeat (first | refine CW.seq ?_ | refine QW.then_n ?_ | refine CW.block ?_ | refine CW.ret ?_ | refine CW.skip ?_ | refine CW.exit ?_ | refine QW.then_x ?_ | refine QW.then_r ?_ | refine QW.block_n ?_ | refine QW.block_xe ?_ | refine QW.block_xn rfl ?_ | refine QW.block_r ?_))
  refine CW.region ?_
  refine OW.rv (RV.move rfl) rfl ?_
  refine OW.rv (RV.move rfl) rfl ?_
  refine OW.rv (RV.len rfl rfl) rfl ?_
  (first | refine OW.rv (RV.lss_t rfl rfl (by omega)) rfl ?_ | refine OW.rv (RV.lss_f rfl rfl (by omega)) rfl ?_ | refine OW.rv (RV.lss rfl rfl) rfl ?_)
  refine OW.nil ?_
  (repeat (first | refine CW.seq ?_ | refine QW.then_n ?_ | refine CW.block ?_ | refine CW.ret ?_ | refine CW.skip ?_ | refine CW.exit ?_ | refine QW.then_x ?_ | refine QW.then_r ?_ | refine QW.block_n ?_ | refine QW.block_xe ?_ | refine QW.block_xn rfl ?_ | refine QW.block_r ?_))
  (first | refine CW.cond_t rfl ?_ | refine CW.cond_f rfl ?_ | refine CW.cond_p rfl (fun h => ?_) (fun h => ?_) | refine CW.cond_np rfl (fun h => ?_) (fun h => ?_) | refine CW.cond rfl (fun h => ?_) (fun h => ?_))
  (repeat (first | refine CW.seq ?_ | refine QW.then_n ?_ | refine CW.block ?_ | refine CW.ret ?_ | refine CW.skip ?_ | refine CW.exit ?_ | refine QW.then_x ?_ | refine QW.then_r ?_ | refine QW.block_n ?_ | refine QW.block_xe ?_ | refine QW.block_xn rfl ?_ | refine QW.block_r ?_))
  refine CW.region ?_
  refine OW.rv (RV.assign rfl) rfl ?_
  refine OW.nil ?_
  (repeat (first | refine CW.seq ?_ | refine QW.then_n ?_ | refine CW.block ?_ | refine CW.ret ?_ | refine CW.skip ?_ | refine CW.exit ?_ | refine QW.then_x ?_ | refine QW.then_r ?_ | refine QW.block_n ?_ | refine QW.block_xe ?_ | refine QW.block_xn rfl ?_ | refine QW.block_r ?_))
  refine CW.loop (σ := Nat) (fun k => k ≤ n0) (fun k => [(0, sl (some bl) 0 3 3), (3, .int .i64 0), (4, .int .i64 (k : Int))]) (fun k => (o0, blk (u8s (List.replicate k (BitVec.ofInt 8 (0 % 125)) ++ x0.drop k)) 5) :: (some bl, blk [sl o0 0 n0 n0, sl o1 0 n1 n1, sl o2 0 n2 n2] 22) :: (o1, blk (u8s x1) 5) :: (o2, blk (u8s x2) 5) :: M) (fun k => n0 - k) 0 (by omega) ⟨rfl, rfl, rfl, trivial⟩ (fun _ m => m.rot1) ?_
  intro k hk
  (repeat (first | refine CW.seq ?_ | refine QW.then_n ?_ | refine CW.block ?_ | refine CW.ret ?_ | refine CW.skip ?_ | refine CW.exit ?_ | refine QW.then_x ?_ | refine QW.then_r ?_ | refine QW.block_n ?_ | refine QW.block_xe ?_ | refine QW.block_xn rfl ?_ | refine QW.block_r ?_))
  refine CW.region ?_
  refine OW.rv (RV.move rfl) rfl ?_
  refine OW.rv (RV.move rfl) rfl ?_
  refine OW.rv (RV.move rfl) rfl ?_
  (first | refine OW.rv (RV.idx_o _ rfl rfl rfl rfl rfl (by first | rfl | assumption) (by omega)) rfl ?_ | refine OW.rv (RV.idx_r _ rfl rfl rfl rfl rfl (by first | rfl | assumption) (by omega)) rfl ?_ | refine OW.rv (RV.idx_oz rfl rfl (by omega) rfl rfl (by first | rfl | assumption) (by omega)) rfl ?_ | refine OW.rv (RV.idx_rz rfl rfl (by omega) rfl rfl (by first | rfl | assumption) (by omega)) rfl ?_)
  (first | refine OW.rv (RV.load rfl (by repeat (first | exact List.Mem.head _ | refine List.Mem.tail _ ?_)) (by first | rfl | assumption) rfl rfl (by first | rfl | assumption)) rfl ?_ | refine OW.rv (RV.load_at rfl rfl rfl (by repeat (first | assumption | refine Mem.Says.cons ?_))) rfl ?_)
  refine OW.rv (RV.len rfl rfl) rfl ?_
  refine OW.rv (RV.lss rfl rfl) rfl ?_
  refine OW.nil ?_
  (repeat (first | refine CW.seq ?_ | refine QW.then_n ?_ | refine CW.block ?_ | refine CW.ret ?_ | refine CW.skip ?_ | refine CW.exit ?_ | refine QW.then_x ?_ | refine QW.then_r ?_ | refine QW.block_n ?_ | refine QW.block_xe ?_ | refine QW.block_xn rfl ?_ | refine QW.block_r ?_))
  (first | refine CW.cond_t rfl ?_ | refine CW.cond_f rfl ?_ | refine CW.cond_p rfl (fun hlt => ?_) (fun hlt => ?_) | refine CW.cond_np rfl (fun hlt => ?_) (fun hlt => ?_) | refine CW.cond rfl (fun hlt => ?_) (fun hlt => ?_))
  · have hs : o0.isSome = true := by
      cases o0 with
      | none => have := hn0 rfl; omega
      | some b => rfl
    have hl : 0 + k < (u8s (List.replicate k (BitVec.ofInt 8 (0 % 125)) ++ x0.drop k)).length := by simp; omega
    (repeat (first | refine CW.seq ?_ | refine QW.then_n ?_ | refine CW.block ?_ | refine CW.ret ?_ | refine CW.skip ?_ | refine CW.exit ?_ | refine QW.then_x ?_ | refine QW.then_r ?_ | refine QW.block_n ?_ | refine QW.block_xe ?_ | refine QW.block_xn rfl ?_ | refine QW.block_r ?_))
    refine CW.region ?_
    refine OW.rv (RV.move rfl) rfl ?_
    refine OW.rv (RV.move rfl) rfl ?_
    (first | refine OW.rv (RV.idx_o _ rfl rfl rfl rfl rfl (by first | rfl | assumption) (by omega)) rfl ?_ | refine OW.rv (RV.idx_r _ rfl rfl rfl rfl rfl (by first | rfl | assumption) (by omega)) rfl ?_ | refine OW.rv (RV.idx_oz rfl rfl (by omega) rfl rfl (by first | rfl | assumption) (by omega)) rfl ?_ | refine OW.rv (RV.idx_rz rfl rfl (by omega) rfl rfl (by first | rfl | assumption) (by omega)) rfl ?_)
    (first | refine OW.rv (RV.load rfl (by repeat (first | exact List.Mem.head _ | refine List.Mem.tail _ ?_)) (by first | rfl | assumption) rfl rfl (by first | rfl | assumption)) rfl ?_ | refine OW.rv (RV.load_at rfl rfl rfl (by repeat (first | assumption | refine Mem.Says.cons ?_))) rfl ?_)
    refine OW.rv (RV.move rfl) rfl ?_
    refine OW.rv (RV.move rfl) rfl ?_
    (first | refine OW.rv (RV.rem rfl rfl (by omega) (by omega)) rfl ?_ | refine OW.rv (RV.trem rfl rfl (by omega)) rfl ?_)
    refine OW.rv (RV.conv_i8 rfl rfl rfl) rfl ?_
    (first | refine OW.rv (RV.idx_o _ rfl rfl rfl rfl rfl (by first | rfl | assumption) (by omega)) rfl ?_ | refine OW.rv (RV.idx_r _ rfl rfl rfl rfl rfl (by first | rfl | assumption) (by omega)) rfl ?_ | refine OW.rv (RV.idx_oz rfl rfl (by omega) rfl rfl (by first | rfl | assumption) (by omega)) rfl ?_ | refine OW.rv (RV.idx_rz rfl rfl (by omega) rfl rfl (by first | rfl | assumption) (by omega)) rfl ?_)
    (first | refine OW.sv (SV.store rfl (by first | rfl | assumption) rfl rfl rfl (by first | assumption | (simp; done) | (simp; omega) | omega)) ?_ | (refine OW.rot1 ?_; refine OW.sv (SV.store rfl (by first | rfl | assumption) rfl rfl rfl (by first | assumption | (simp; done) | (simp; omega) | omega)) ?_) | (refine OW.rot2 ?_; refine OW.sv (SV.store rfl (by first | rfl | assumption) rfl rfl rfl (by first | assumption | (simp; done) | (simp; omega) | omega)) ?_) | (refine OW.rot3 ?_; refine OW.sv (SV.store rfl (by first | rfl | assumption) rfl rfl rfl (by first | assumption | (simp; done) | (simp; omega) | omega)) ?_) | (refine OW.rot4 ?_; refine OW.sv (SV.store rfl (by first | rfl | assumption) rfl rfl rfl (by first | assumption | (simp; done) | (simp; omega) | omega)) ?_))
    refine OW.nil ?_
    (repeat (first | refine CW.seq ?_ | refine QW.then_n ?_ | refine CW.block ?_ | refine CW.ret ?_ | refine CW.skip ?_ | refine CW.exit ?_ | refine QW.then_x ?_ | refine QW.then_r ?_ | refine QW.block_n ?_ | refine QW.block_xe ?_ | refine QW.block_xn rfl ?_ | refine QW.block_r ?_))
    (repeat (first | refine CW.seq ?_ | refine QW.then_n ?_ | refine CW.block ?_ | refine CW.ret ?_ | refine CW.skip ?_ | refine CW.exit ?_ | refine QW.then_x ?_ | refine QW.then_r ?_ | refine QW.block_n ?_ | refine QW.block_xe ?_ | refine QW.block_xn rfl ?_ | refine QW.block_r ?_))
    refine CW.region ?_
    refine OW.rv (RV.move rfl) rfl ?_
    refine OW.rv (RV.add rfl rfl (by omega)) rfl ?_
    refine OW.rv (RV.assign rfl) rfl ?_
    refine OW.nil ?_
    (repeat (first | refine CW.seq ?_ | refine QW.then_n ?_ | refine CW.block ?_ | refine CW.ret ?_ | refine CW.skip ?_ | refine CW.exit ?_ | refine QW.then_x ?_ | refine QW.then_r ?_ | refine QW.block_n ?_ | refine QW.block_xe ?_ | refine QW.block_xn rfl ?_ | refine QW.block_r ?_))
    refine QW.again (k + 1) (by omega) (by omega) ⟨rfl, rfl, rfl, trivial⟩ (fun _ m => ?_)
    rw [mark_step x0 _ (by omega)] at m
    exact m
  obtain rfl : k = n0 := by omega
  (repeat (first | refine CW.seq ?_ | refine QW.then_n ?_ | refine CW.block ?_ | refine CW.ret ?_ | refine CW.skip ?_ | refine CW.exit ?_ | refine QW.then_x ?_ | refine QW.then_r ?_ | refine QW.block_n ?_ | refine QW.block_xe ?_ | refine QW.block_xn rfl ?_ | refine QW.block_r ?_))
  refine CW.region ?_
  refine OW.rv (RV.move rfl) rfl ?_
  refine OW.rv (RV.add rfl rfl (by omega)) rfl ?_
  refine OW.rv (RV.assign rfl) rfl ?_
  refine OW.nil ?_
  (repeat (first | refine CW.seq ?_ | refine QW.then_n ?_ | refine CW.block ?_ | refine CW.ret ?_ | refine CW.skip ?_ | refine CW.exit ?_ | refine QW.then_x ?_ | refine QW.then_r ?_ | refine QW.block_n ?_ | refine QW.block_xe ?_ | refine QW.block_xn rfl ?_ | refine QW.block_r ?_))
  refine QW.then_k ?_
  have hd : List.replicate k (BitVec.ofInt 8 (0 % 125)) ++ x0.drop k = List.replicate k (BitVec.ofInt 8 (0 % 125)) := by rw [List.drop_of_length_le (by omega), List.append_nil]
  rw [hd]
  clear hd hk hlt
  refine RW.state (L' := [(0, sl (some bl) 0 3 3), (3, .int .i64 1)]) ⟨rfl, rfl, trivial⟩ (fun _ m => m) ?_
  obtain ⟨n0, hk⟩ : ∃ n, n = k := ⟨_, rfl⟩
  subst hk
  refine RW.succ ?_
  (repeat (first | refine CW.seq ?_ | refine QW.then_n ?_ | refine CW.block ?_ | refine CW.ret ?_ | refine CW.skip ?_ | refine CW.exit ?_ | refine QW.then_x ?_ | refine QW.then_r ?_ | refine QW.block_n ?_ | refine QW.block_xe ?_ | refine QW.block_xn rfl ?_ | refine QW.block_r ?_))
  refine CW.region ?_
  refine OW.rv (RV.move rfl) rfl ?_
  refine OW.rv (RV.move rfl) rfl ?_
  refine OW.rv (RV.len rfl rfl) rfl ?_
  (first | refine OW.rv (RV.lss_t rfl rfl (by omega)) rfl ?_ | refine OW.rv (RV.lss_f rfl rfl (by omega)) rfl ?_ | refine OW.rv (RV.lss rfl rfl) rfl ?_)
  refine OW.nil ?_
  (repeat (first | refine CW.seq ?_ | refine QW.then_n ?_ | refine CW.block ?_ | refine CW.ret ?_ | refine CW.skip ?_ | refine CW.exit ?_ | refine QW.then_x ?_ | refine QW.then_r ?_ | refine QW.block_n ?_ | refine QW.block_xe ?_ | refine QW.block_xn rfl ?_ | refine QW.block_r ?_))
  (first | refine CW.cond_t rfl ?_ | refine CW.cond_f rfl ?_ | refine CW.cond_p rfl (fun h => ?_) (fun h => ?_) | refine CW.cond_np rfl (fun h => ?_) (fun h => ?_) | refine CW.cond rfl (fun h => ?_) (fun h => ?_))
  (repeat (first | refine CW.seq ?_ | refine QW.then_n ?_ | refine CW.block ?_ | refine CW.ret ?_ | refine CW.skip ?_ | refine CW.exit ?_ | refine QW.then_x ?_ | refine QW.then_r ?_ | refine QW.block_n ?_ | refine QW.block_xe ?_ | refine QW.block_xn rfl ?_ | refine QW.block_r ?_))
  refine CW.region ?_
  refine OW.rv (RV.assign rfl) rfl ?_
  refine OW.nil ?_
  (repeat (first | refine CW.seq ?_ | refine QW.then_n ?_ | refine CW.block ?_ | refine CW.ret ?_ | refine CW.skip ?_ | refine CW.exit ?_ | refine QW.then_x ?_ | refine QW.then_r ?_ | refine QW.block_n ?_ | refine QW.block_xe ?_ | refine QW.block_xn rfl ?_ | refine QW.block_r ?_))
  refine CW.loop (σ := Nat) (fun k => k ≤ n1) (fun k => [(0, sl (some bl) 0 3 3), (3, .int .i64 1), (4, .int .i64 (k : Int))]) (fun k => (o1, blk (u8s (List.replicate k (BitVec.ofInt 8 (1 % 125)) ++ x1.drop k)) 5) :: (o0, blk (u8s (List.replicate n0 (BitVec.ofInt 8 (0 % 125)))) 5) :: (some bl, blk [sl o0 0 n0 n0, sl o1 0 n1 n1, sl o2 0 n2 n2] 22) :: (o2, blk (u8s x2) 5) :: M) (fun k => n1 - k) 0 (by omega) ⟨rfl, rfl, rfl, trivial⟩ (fun _ m => m.rot2) ?_
  intro k hk
  (repeat (first | refine CW.seq ?_ | refine QW.then_n ?_ | refine CW.block ?_ | refine CW.ret ?_ | refine CW.skip ?_ | refine CW.exit ?_ | refine QW.then_x ?_ | refine QW.then_r ?_ | refine QW.block_n ?_ | refine QW.block_xe ?_ | refine QW.block_xn rfl ?_ | refine QW.block_r ?_))
  refine CW.region ?_
  refine OW.rv (RV.move rfl) rfl ?_
  refine OW.rv (RV.move rfl) rfl ?_
  refine OW.rv (RV.move rfl) rfl ?_
  (first | refine OW.rv (RV.idx_o _ rfl rfl rfl rfl rfl (by first | rfl | assumption) (by omega)) rfl ?_ | refine OW.rv (RV.idx_r _ rfl rfl rfl rfl rfl (by first | rfl | assumption) (by omega)) rfl ?_ | refine OW.rv (RV.idx_oz rfl rfl (by omega) rfl rfl (by first | rfl | assumption) (by omega)) rfl ?_ | refine OW.rv (RV.idx_rz rfl rfl (by omega) rfl rfl (by first | rfl | assumption) (by omega)) rfl ?_)
  (first | refine OW.rv (RV.load rfl (by repeat (first | exact List.Mem.head _ | refine List.Mem.tail _ ?_)) (by first | rfl | assumption) rfl rfl (by first | rfl | assumption)) rfl ?_ | refine OW.rv (RV.load_at rfl rfl rfl (by repeat (first | assumption | refine Mem.Says.cons ?_))) rfl ?_)
  refine OW.rv (RV.len rfl rfl) rfl ?_
  refine OW.rv (RV.lss rfl rfl) rfl ?_
  refine OW.nil ?_
  (repeat (first | refine CW.seq ?_ | refine QW.then_n ?_ | refine CW.block ?_ | refine CW.ret ?_ | refine CW.skip ?_ | refine CW.exit ?_ | refine QW.then_x ?_ | refine QW.then_r ?_ | refine QW.block_n ?_ | refine QW.block_xe ?_ | refine QW.block_xn rfl ?_ | refine QW.block_r ?_))
  (first | refine CW.cond_t rfl ?_ | refine CW.cond_f rfl ?_ | refine CW.cond_p rfl (fun hlt => ?_) (fun hlt => ?_) | refine CW.cond_np rfl (fun hlt => ?_) (fun hlt => ?_) | refine CW.cond rfl (fun hlt => ?_) (fun hlt => ?_))
  · have hs : o1.isSome = true := by
      cases o1 with
      | none => have := hn1 rfl; omega
      | some b => rfl
    have hl : 0 + k < (u8s (List.replicate k (BitVec.ofInt 8 (1 % 125)) ++ x1.drop k)).length := by simp; omega
    (repeat (first | refine CW.seq ?_ | refine QW.then_n ?_ | refine CW.block ?_ | refine CW.ret ?_ | refine CW.skip ?_ | refine CW.exit ?_ | refine QW.then_x ?_ | refine QW.then_r ?_ | refine QW.block_n ?_ | refine QW.block_xe ?_ | refine QW.block_xn rfl ?_ | refine QW.block_r ?_))
    refine CW.region ?_
    refine OW.rv (RV.move rfl) rfl ?_
    refine OW.rv (RV.move rfl) rfl ?_
    (first | refine OW.rv (RV.idx_o _ rfl rfl rfl rfl rfl (by first | rfl | assumption) (by omega)) rfl ?_ | refine OW.rv (RV.idx_r _ rfl rfl rfl rfl rfl (by first | rfl | assumption) (by omega)) rfl ?_ | refine OW.rv (RV.idx_oz rfl rfl (by omega) rfl rfl (by first | rfl | assumption) (by omega)) rfl ?_ | refine OW.rv (RV.idx_rz rfl rfl (by omega) rfl rfl (by first | rfl | assumption) (by omega)) rfl ?_)
    (first | refine OW.rv (RV.load rfl (by repeat (first | exact List.Mem.head _ | refine List.Mem.tail _ ?_)) (by first | rfl | assumption) rfl rfl (by first | rfl | assumption)) rfl ?_ | refine OW.rv (RV.load_at rfl rfl rfl (by repeat (first | assumption | refine Mem.Says.cons ?_))) rfl ?_)
    refine OW.rv (RV.move rfl) rfl ?_
    refine OW.rv (RV.move rfl) rfl ?_
    (first | refine OW.rv (RV.rem rfl rfl (by omega) (by omega)) rfl ?_ | refine OW.rv (RV.trem rfl rfl (by omega)) rfl ?_)
    refine OW.rv (RV.conv_i8 rfl rfl rfl) rfl ?_
    (first | refine OW.rv (RV.idx_o _ rfl rfl rfl rfl rfl (by first | rfl | assumption) (by omega)) rfl ?_ | refine OW.rv (RV.idx_r _ rfl rfl rfl rfl rfl (by first | rfl | assumption) (by omega)) rfl ?_ | refine OW.rv (RV.idx_oz rfl rfl (by omega) rfl rfl (by first | rfl | assumption) (by omega)) rfl ?_ | refine OW.rv (RV.idx_rz rfl rfl (by omega) rfl rfl (by first | rfl | assumption) (by omega)) rfl ?_)
    (first | refine OW.sv (SV.store rfl (by first | rfl | assumption) rfl rfl rfl (by first | assumption | (simp; done) | (simp; omega) | omega)) ?_ | (refine OW.rot1 ?_; refine OW.sv (SV.store rfl (by first | rfl | assumption) rfl rfl rfl (by first | assumption | (simp; done) | (simp; omega) | omega)) ?_) | (refine OW.rot2 ?_; refine OW.sv (SV.store rfl (by first | rfl | assumption) rfl rfl rfl (by first | assumption | (simp; done) | (simp; omega) | omega)) ?_) | (refine OW.rot3 ?_; refine OW.sv (SV.store rfl (by first | rfl | assumption) rfl rfl rfl (by first | assumption | (simp; done) | (simp; omega) | omega)) ?_) | (refine OW.rot4 ?_; refine OW.sv (SV.store rfl (by first | rfl | assumption) rfl rfl rfl (by first | assumption | (simp; done) | (simp; omega) | omega)) ?_))
    refine OW.nil ?_
    (repeat (first | refine CW.seq ?_ | refine QW.then_n ?_ | refine CW.block ?_ | refine CW.ret ?_ | refine CW.skip ?_ | refine CW.exit ?_ | refine QW.then_x ?_ | refine QW.then_r ?_ | refine QW.block_n ?_ | refine QW.block_xe ?_ | refine QW.block_xn rfl ?_ | refine QW.block_r ?_))
    (repeat (first | refine CW.seq ?_ | refine QW.then_n ?_ | refine CW.block ?_ | refine CW.ret ?_ | refine CW.skip ?_ | refine CW.exit ?_ | refine QW.then_x ?_ | refine QW.then_r ?_ | refine QW.block_n ?_ | refine QW.block_xe ?_ | refine QW.block_xn rfl ?_ | refine QW.block_r ?_))
    refine CW.region ?_
    refine OW.rv (RV.move rfl) rfl ?_
    refine OW.rv (RV.add rfl rfl (by omega)) rfl ?_
    refine OW.rv (RV.assign rfl) rfl ?_
    refine OW.nil ?_
    (repeat (first | refine CW.seq ?_ | refine QW.then_n ?_ | refine CW.block ?_ | refine CW.ret ?_ | refine CW.skip ?_ | refine CW.exit ?_ | refine QW.then_x ?_ | refine QW.then_r ?_ | refine QW.block_n ?_ | refine QW.block_xe ?_ | refine QW.block_xn rfl ?_ | refine QW.block_r ?_))
    refine QW.again (k + 1) (by omega) (by omega) ⟨rfl, rfl, rfl, trivial⟩ (fun _ m => ?_)
    rw [mark_step x1 _ (by omega)] at m
    exact m
  obtain rfl : k = n1 := by omega
  (repeat (first | refine CW.seq ?_ | refine QW.then_n ?_ | refine CW.block ?_ | refine CW.ret ?_ | refine CW.skip ?_ | refine CW.exit ?_ | refine QW.then_x ?_ | refine QW.then_r ?_ | refine QW.block_n ?_ | refine QW.block_xe ?_ | refine QW.block_xn rfl ?_ | refine QW.block_r ?_))
  refine CW.region ?_
  refine OW.rv (RV.move rfl) rfl ?_
  refine OW.rv (RV.add rfl rfl (by omega)) rfl ?_
  refine OW.rv (RV.assign rfl) rfl ?_
  refine OW.nil ?_
  (repeat (first | refine CW.seq ?_ | refine QW.then_n ?_ | refine CW.block ?_ | refine CW.ret ?_ | refine CW.skip ?_ | refine CW.exit ?_ | refine QW.then_x ?_ | refine QW.then_r ?_ | refine QW.block_n ?_ | refine QW.block_xe ?_ | refine QW.block_xn rfl ?_ | refine QW.block_r ?_))
  refine QW.then_k ?_
  have hd : List.replicate k (BitVec.ofInt 8 (1 % 125)) ++ x1.drop k = List.replicate k (BitVec.ofInt 8 (1 % 125)) := by rw [List.drop_of_length_le (by omega), List.append_nil]
  rw [hd]
  clear hd hk hlt
  refine RW.state (L' := [(0, sl (some bl) 0 3 3), (3, .int .i64 2)]) ⟨rfl, rfl, trivial⟩ (fun _ m => m) ?_
  obtain ⟨n1, hk⟩ : ∃ n, n = k := ⟨_, rfl⟩
  subst hk
  refine RW.succ ?_
  (repeat (first | refine CW.seq ?_ | refine QW.then_n ?_ | refine CW.block ?_ | refine CW.ret ?_ | refine CW.skip ?_ | refine CW.exit ?_ | refine QW.then_x ?_ | refine QW.then_r ?_ | refine QW.block_n ?_ | refine QW.block_xe ?_ | refine QW.block_xn rfl ?_ | refine QW.block_r ?_))
  refine CW.region ?_
  refine OW.rv (RV.move rfl) rfl ?_
  refine OW.rv (RV.move rfl) rfl ?_
  refine OW.rv (RV.len rfl rfl) rfl ?_
  (first | refine OW.rv (RV.lss_t rfl rfl (by omega)) rfl ?_ | refine OW.rv (RV.lss_f rfl rfl (by omega)) rfl ?_ | refine OW.rv (RV.lss rfl rfl) rfl ?_)
  refine OW.nil ?_
  (repeat (first | refine CW.seq ?_ | refine QW.then_n ?_ | refine CW.block ?_ | refine CW.ret ?_ | refine CW.skip ?_ | refine CW.exit ?_ | refine QW.then_x ?_ | refine QW.then_r ?_ | refine QW.block_n ?_ | refine QW.block_xe ?_ | refine QW.block_xn rfl ?_ | refine QW.block_r ?_))
  (first | refine CW.cond_t rfl ?_ | refine CW.cond_f rfl ?_ | refine CW.cond_p rfl (fun h => ?_) (fun h => ?_) | refine CW.cond_np rfl (fun h => ?_) (fun h => ?_) | refine CW.cond rfl (fun h => ?_) (fun h => ?_))
  (repeat (first | refine CW.seq ?_ | refine QW.then_n ?_ | refine CW.block ?_ | refine CW.ret ?_ | refine CW.skip ?_ | refine CW.exit ?_ | refine QW.then_x ?_ | refine QW.then_r ?_ | refine QW.block_n ?_ | refine QW.block_xe ?_ | refine QW.block_xn rfl ?_ | refine QW.block_r ?_))
  refine CW.region ?_
  refine OW.rv (RV.assign rfl) rfl ?_
  refine OW.nil ?_
  (repeat (first | refine CW.seq ?_ | refine QW.then_n ?_ | refine CW.block ?_ | refine CW.ret ?_ | refine CW.skip ?_ | refine CW.exit ?_ | refine QW.then_x ?_ | refine QW.then_r ?_ | refine QW.block_n ?_ | refine QW.block_xe ?_ | refine QW.block_xn rfl ?_ | refine QW.block_r ?_))
  refine CW.loop (σ := Nat) (fun k => k ≤ n2) (fun k => [(0, sl (some bl) 0 3 3), (3, .int .i64 2), (4, .int .i64 (k : Int))]) (fun k => (o2, blk (u8s (List.replicate k (BitVec.ofInt 8 (2 % 125)) ++ x2.drop k)) 5) :: (o1, blk (u8s (List.replicate n1 (BitVec.ofInt 8 (1 % 125)))) 5) :: (o0, blk (u8s (List.replicate n0 (BitVec.ofInt 8 (0 % 125)))) 5) :: (some bl, blk [sl o0 0 n0 n0, sl o1 0 n1 n1, sl o2 0 n2 n2] 22) :: M) (fun k => n2 - k) 0 (by omega) ⟨rfl, rfl, rfl, trivial⟩ (fun _ m => m.rot3) ?_
  intro k hk
  (repeat (first | refine CW.seq ?_ | refine QW.then_n ?_ | refine CW.block ?_ | refine CW.ret ?_ | refine CW.skip ?_ | refine CW.exit ?_ | refine QW.then_x ?_ | refine QW.then_r ?_ | refine QW.block_n ?_ | refine QW.block_xe ?_ | refine QW.block_xn rfl ?_ | refine QW.block_r ?_))
  refine CW.region ?_
  refine OW.rv (RV.move rfl) rfl ?_
  refine OW.rv (RV.move rfl) rfl ?_
  refine OW.rv (RV.move rfl) rfl ?_
  (first | refine OW.rv (RV.idx_o _ rfl rfl rfl rfl rfl (by first | rfl | assumption) (by omega)) rfl ?_ | refine OW.rv (RV.idx_r _ rfl rfl rfl rfl rfl (by first | rfl | assumption) (by omega)) rfl ?_ | refine OW.rv (RV.idx_oz rfl rfl (by omega) rfl rfl (by first | rfl | assumption) (by omega)) rfl ?_ | refine OW.rv (RV.idx_rz rfl rfl (by omega) rfl rfl (by first | rfl | assumption) (by omega)) rfl ?_)
  (first | refine OW.rv (RV.load rfl (by repeat (first | exact List.Mem.head _ | refine List.Mem.tail _ ?_)) (by first | rfl | assumption) rfl rfl (by first | rfl | assumption)) rfl ?_ | refine OW.rv (RV.load_at rfl rfl rfl (by repeat (first | assumption | refine Mem.Says.cons ?_))) rfl ?_)
  refine OW.rv (RV.len rfl rfl) rfl ?_
  refine OW.rv (RV.lss rfl rfl) rfl ?_
  refine OW.nil ?_
  (repeat (first | refine CW.seq ?_ | refine QW.then_n ?_ | refine CW.block ?_ | refine CW.ret ?_ | refine CW.skip ?_ | refine CW.exit ?_ | refine QW.then_x ?_ | refine QW.then_r ?_ | refine QW.block_n ?_ | refine QW.block_xe ?_ | refine QW.block_xn rfl ?_ | refine QW.block_r ?_))
  (first | refine CW.cond_t rfl ?_ | refine CW.cond_f rfl ?_ | refine CW.cond_p rfl (fun hlt => ?_) (fun hlt => ?_) | refine CW.cond_np rfl (fun hlt => ?_) (fun hlt => ?_) | refine CW.cond rfl (fun hlt => ?_) (fun hlt => ?_))
  · have hs : o2.isSome = true := by
      cases o2 with
      | none => have := hn2 rfl; omega
      | some b => rfl
    have hl : 0 + k < (u8s (List.replicate k (BitVec.ofInt 8 (2 % 125)) ++ x2.drop k)).length := by simp; omega
    (repeat (first | refine CW.seq ?_ | refine QW.then_n ?_ | refine CW.block ?_ | refine CW.ret ?_ | refine CW.skip ?_ | refine CW.exit ?_ | refine QW.then_x ?_ | refine QW.then_r ?_ | refine QW.block_n ?_ | refine QW.block_xe ?_ | refine QW.block_xn rfl ?_ | refine QW.block_r ?_))
    refine CW.region ?_
    refine OW.rv (RV.move rfl) rfl ?_
    refine OW.rv (RV.move rfl) rfl ?_
    (first | refine OW.rv (RV.idx_o _ rfl rfl rfl rfl rfl (by first | rfl | assumption) (by omega)) rfl ?_ | refine OW.rv (RV.idx_r _ rfl rfl rfl rfl rfl (by first | rfl | assumption) (by omega)) rfl ?_ | refine OW.rv (RV.idx_oz rfl rfl (by omega) rfl rfl (by first | rfl | assumption) (by omega)) rfl ?_ | refine OW.rv (RV.idx_rz rfl rfl (by omega) rfl rfl (by first | rfl | assumption) (by omega)) rfl ?_)
    (first | refine OW.rv (RV.load rfl (by repeat (first | exact List.Mem.head _ | refine List.Mem.tail _ ?_)) (by first | rfl | assumption) rfl rfl (by first | rfl | assumption)) rfl ?_ | refine OW.rv (RV.load_at rfl rfl rfl (by repeat (first | assumption | refine Mem.Says.cons ?_))) rfl ?_)
    refine OW.rv (RV.move rfl) rfl ?_
    refine OW.rv (RV.move rfl) rfl ?_
    (first | refine OW.rv (RV.rem rfl rfl (by omega) (by omega)) rfl ?_ | refine OW.rv (RV.trem rfl rfl (by omega)) rfl ?_)
    refine OW.rv (RV.conv_i8 rfl rfl rfl) rfl ?_
    (first | refine OW.rv (RV.idx_o _ rfl rfl rfl rfl rfl (by first | rfl | assumption) (by omega)) rfl ?_ | refine OW.rv (RV.idx_r _ rfl rfl rfl rfl rfl (by first | rfl | assumption) (by omega)) rfl ?_ | refine OW.rv (RV.idx_oz rfl rfl (by omega) rfl rfl (by first | rfl | assumption) (by omega)) rfl ?_ | refine OW.rv (RV.idx_rz rfl rfl (by omega) rfl rfl (by first | rfl | assumption) (by omega)) rfl ?_)
    (first | refine OW.sv (SV.store rfl (by first | rfl | assumption) rfl rfl rfl (by first | assumption | (simp; done) | (simp; omega) | omega)) ?_ | (refine OW.rot1 ?_; refine OW.sv (SV.store rfl (by first | rfl | assumption) rfl rfl rfl (by first | assumption | (simp; done) | (simp; omega) | omega)) ?_) | (refine OW.rot2 ?_; refine OW.sv (SV.store rfl (by first | rfl | assumption) rfl rfl rfl (by first | assumption | (simp; done) | (simp; omega) | omega)) ?_) | (refine OW.rot3 ?_; refine OW.sv (SV.store rfl (by first | rfl | assumption) rfl rfl rfl (by first | assumption | (simp; done) | (simp; omega) | omega)) ?_) | (refine OW.rot4 ?_; refine OW.sv (SV.store rfl (by first | rfl | assumption) rfl rfl rfl (by first | assumption | (simp; done) | (simp; omega) | omega)) ?_))
    refine OW.nil ?_
    (repeat (first | refine CW.seq ?_ | refine QW.then_n ?_ | refine CW.block ?_ | refine CW.ret ?_ | refine CW.skip ?_ | refine CW.exit ?_ | refine QW.then_x ?_ | refine QW.then_r ?_ | refine QW.block_n ?_ | refine QW.block_xe ?_ | refine QW.block_xn rfl ?_ | refine QW.block_r ?_))
    (repeat (first | refine CW.seq ?_ | refine QW.then_n ?_ | refine CW.block ?_ | refine CW.ret ?_ | refine CW.skip ?_ | refine CW.exit ?_ | refine QW.then_x ?_ | refine QW.then_r ?_ | refine QW.block_n ?_ | refine QW.block_xe ?_ | refine QW.block_xn rfl ?_ | refine QW.block_r ?_))
    refine CW.region ?_
    refine OW.rv (RV.move rfl) rfl ?_
    refine OW.rv (RV.add rfl rfl (by omega)) rfl ?_
    refine OW.rv (RV.assign rfl) rfl ?_
    refine OW.nil ?_
    (repeat (first | refine CW.seq ?_ | refine QW.then_n ?_ | refine CW.block ?_ | refine CW.ret ?_ | refine CW.skip ?_ | refine CW.exit ?_ | refine QW.then_x ?_ | refine QW.then_r ?_ | refine QW.block_n ?_ | refine QW.block_xe ?_ | refine QW.block_xn rfl ?_ | refine QW.block_r ?_))
    refine QW.again (k + 1) (by omega) (by omega) ⟨rfl, rfl, rfl, trivial⟩ (fun _ m => ?_)
    rw [mark_step x2 _ (by omega)] at m
    exact m
  obtain rfl : k = n2 := by omega
  (repeat (first | refine CW.seq ?_ | refine QW.then_n ?_ | refine CW.block ?_ | refine CW.ret ?_ | refine CW.skip ?_ | refine CW.exit ?_ | refine QW.then_x ?_ | refine QW.then_r ?_ | refine QW.block_n ?_ | refine QW.block_xe ?_ | refine QW.block_xn rfl ?_ | refine QW.block_r ?_))
  refine CW.region ?_
  refine OW.rv (RV.move rfl) rfl ?_
  refine OW.rv (RV.add rfl rfl (by omega)) rfl ?_
  refine OW.rv (RV.assign rfl) rfl ?_
  refine OW.nil ?_
  (repeat (first | refine CW.seq ?_ | refine QW.then_n ?_ | refine CW.block ?_ | refine CW.ret ?_ | refine CW.skip ?_ | refine CW.exit ?_ | refine QW.then_x ?_ | refine QW.then_r ?_ | refine QW.block_n ?_ | refine QW.block_xe ?_ | refine QW.block_xn rfl ?_ | refine QW.block_r ?_))
  refine QW.then_k ?_
  have hd : List.replicate k (BitVec.ofInt 8 (2 % 125)) ++ x2.drop k = List.replicate k (BitVec.ofInt 8 (2 % 125)) := by rw [List.drop_of_length_le (by omega), List.append_nil]
  rw [hd]
  clear hd hk hlt
  refine RW.state (L' := [(0, sl (some bl) 0 3 3), (3, .int .i64 3)]) ⟨rfl, rfl, trivial⟩ (fun _ m => m) ?_
  obtain ⟨n2, hk⟩ : ∃ n, n = k := ⟨_, rfl⟩
  subst hk
  refine RW.succ ?_
  (repeat (first | refine CW.seq ?_ | refine QW.then_n ?_ | refine CW.block ?_ | refine CW.ret ?_ | refine CW.skip ?_ | refine CW.exit ?_ | refine QW.then_x ?_ | refine QW.then_r ?_ | refine QW.block_n ?_ | refine QW.block_xe ?_ | refine QW.block_xn rfl ?_ | refine QW.block_r ?_))
  refine CW.region ?_
  refine OW.rv (RV.move rfl) rfl ?_
  refine OW.rv (RV.move rfl) rfl ?_
  refine OW.rv (RV.len rfl rfl) rfl ?_
  (first | refine OW.rv (RV.lss_t rfl rfl (by omega)) rfl ?_ | refine OW.rv (RV.lss_f rfl rfl (by omega)) rfl ?_ | refine OW.rv (RV.lss rfl rfl) rfl ?_)
  refine OW.nil ?_
  (repeat (first | refine CW.seq ?_ | refine QW.then_n ?_ | refine CW.block ?_ | refine CW.ret ?_ | refine CW.skip ?_ | refine CW.exit ?_ | refine QW.then_x ?_ | refine QW.then_r ?_ | refine QW.block_n ?_ | refine QW.block_xe ?_ | refine QW.block_xn rfl ?_ | refine QW.block_r ?_))
  (first | refine CW.cond_t rfl ?_ | refine CW.cond_f rfl ?_ | refine CW.cond_p rfl (fun h => ?_) (fun h => ?_) | refine CW.cond_np rfl (fun h => ?_) (fun h => ?_) | refine CW.cond rfl (fun h => ?_) (fun h => ?_))
  (repeat (first | refine CW.seq ?_ | refine QW.then_n ?_ | refine CW.block ?_ | refine CW.ret ?_ | refine CW.skip ?_ | refine CW.exit ?_ | refine QW.then_x ?_ | refine QW.then_r ?_ | refine QW.block_n ?_ | refine QW.block_xe ?_ | refine QW.block_xn rfl ?_ | refine QW.block_r ?_))
  refine CW.region ?_
  refine OW.rv (RV.assign rfl) rfl ?_
  refine OW.nil ?_
  (repeat (first | refine CW.seq ?_ | refine QW.then_n ?_ | refine CW.block ?_ | refine CW.ret ?_ | refine CW.skip ?_ | refine CW.exit ?_ | refine QW.then_x ?_ | refine QW.then_r ?_ | refine QW.block_n ?_ | refine QW.block_xe ?_ | refine QW.block_xn rfl ?_ | refine QW.block_r ?_))
  (repeat (first | refine CW.seq ?_ | refine QW.then_n ?_ | refine CW.block ?_ | refine CW.ret ?_ | refine CW.skip ?_ | refine CW.exit ?_ | refine QW.then_x ?_ | refine QW.then_r ?_ | refine QW.block_n ?_ | refine QW.block_xe ?_ | refine QW.block_xn rfl ?_ | refine QW.block_r ?_))
  refine CW.region ?_
  refine OW.rv (RV.assign rfl) rfl ?_
  refine OW.nil ?_
  (repeat (first | refine CW.seq ?_ | refine QW.then_n ?_ | refine CW.block ?_ | refine CW.ret ?_ | refine CW.skip ?_ | refine CW.exit ?_ | refine QW.then_x ?_ | refine QW.then_r ?_ | refine QW.block_n ?_ | refine QW.block_xe ?_ | refine QW.block_xn rfl ?_ | refine QW.block_r ?_))
  refine CW.state (L' := [(0, sl (some bl) 0 3 3), (5, sl none 0 0 0), (6, .int .i64 0)]) (M' := (none, blk ([] ++ []) 22) :: (o2, blk (u8s (List.replicate n2 (BitVec.ofInt 8 (2 % 125)))) 5) :: (o1, blk (u8s (List.replicate n1 (BitVec.ofInt 8 (1 % 125)))) 5) :: (o0, blk (u8s (List.replicate n0 (BitVec.ofInt 8 (0 % 125)))) 5) :: (some bl, blk [sl o0 0 n0 n0, sl o1 0 n1 n1, sl o2 0 n2 n2] 22) :: M) ⟨rfl, rfl, rfl, trivial⟩ (fun _ m => m.nil_ent _) ?_
  refine CW.loopN 4 ?_
  refine RW.succ ?_
  (repeat (first | refine CW.seq ?_ | refine QW.then_n ?_ | refine CW.block ?_ | refine CW.ret ?_ | refine CW.skip ?_ | refine CW.exit ?_ | refine QW.then_x ?_ | refine QW.then_r ?_ | refine QW.block_n ?_ | refine QW.block_xe ?_ | refine QW.block_xn rfl ?_ | refine QW.block_r ?_))
  refine CW.region ?_
  refine OW.rv (RV.move rfl) rfl ?_
  refine OW.rv (RV.move rfl) rfl ?_
  refine OW.rv (RV.len rfl rfl) rfl ?_
  (first | refine OW.rv (RV.lss_t rfl rfl (by omega)) rfl ?_ | refine OW.rv (RV.lss_f rfl rfl (by omega)) rfl ?_ | refine OW.rv (RV.lss rfl rfl) rfl ?_)
  refine OW.nil ?_
  (repeat (first | refine CW.seq ?_ | refine QW.then_n ?_ | refine CW.block ?_ | refine CW.ret ?_ | refine CW.skip ?_ | refine CW.exit ?_ | refine QW.then_x ?_ | refine QW.then_r ?_ | refine QW.block_n ?_ | refine QW.block_xe ?_ | refine QW.block_xn rfl ?_ | refine QW.block_r ?_))
  (first | refine CW.cond_t rfl ?_ | refine CW.cond_f rfl ?_ | refine CW.cond_p rfl (fun h => ?_) (fun h => ?_) | refine CW.cond_np rfl (fun h => ?_) (fun h => ?_) | refine CW.cond rfl (fun h => ?_) (fun h => ?_))
  (repeat (first | refine CW.seq ?_ | refine QW.then_n ?_ | refine CW.block ?_ | refine CW.ret ?_ | refine CW.skip ?_ | refine CW.exit ?_ | refine QW.then_x ?_ | refine QW.then_r ?_ | refine QW.block_n ?_ | refine QW.block_xe ?_ | refine QW.block_xn rfl ?_ | refine QW.block_r ?_))
  refine CW.region ?_
  refine OW.rv (RV.move rfl) rfl ?_
  refine OW.rv (RV.move rfl) rfl ?_
  (first | refine OW.rv (RV.idx_o _ rfl rfl rfl rfl rfl (by first | rfl | assumption) (by omega)) rfl ?_ | refine OW.rv (RV.idx_r _ rfl rfl rfl rfl rfl (by first | rfl | assumption) (by omega)) rfl ?_ | refine OW.rv (RV.idx_oz rfl rfl (by omega) rfl rfl (by first | rfl | assumption) (by omega)) rfl ?_ | refine OW.rv (RV.idx_rz rfl rfl (by omega) rfl rfl (by first | rfl | assumption) (by omega)) rfl ?_)
  (first | refine OW.rv (RV.load rfl (by repeat (first | exact List.Mem.head _ | refine List.Mem.tail _ ?_)) (by first | rfl | assumption) rfl rfl (by first | rfl | assumption)) rfl ?_ | refine OW.rv (RV.load_at rfl rfl rfl (by repeat (first | assumption | refine Mem.Says.cons ?_))) rfl ?_)
  refine OW.rv (RV.assign rfl) rfl ?_
  refine OW.nil ?_
  (repeat (first | refine CW.seq ?_ | refine QW.then_n ?_ | refine CW.block ?_ | refine CW.ret ?_ | refine CW.skip ?_ | refine CW.exit ?_ | refine QW.then_x ?_ | refine QW.then_r ?_ | refine QW.block_n ?_ | refine QW.block_xe ?_ | refine QW.block_xn rfl ?_ | refine QW.block_r ?_))
  (repeat (first | refine CW.seq ?_ | refine QW.then_n ?_ | refine CW.block ?_ | refine CW.ret ?_ | refine CW.skip ?_ | refine CW.exit ?_ | refine QW.then_x ?_ | refine QW.then_r ?_ | refine QW.block_n ?_ | refine QW.block_xe ?_ | refine QW.block_xn rfl ?_ | refine QW.block_r ?_))
  refine CW.region ?_
  refine OW.rv (RV.assign rfl) rfl ?_
  refine OW.nil ?_
  (repeat (first | refine CW.seq ?_ | refine QW.then_n ?_ | refine CW.block ?_ | refine CW.ret ?_ | refine CW.skip ?_ | refine CW.exit ?_ | refine QW.then_x ?_ | refine QW.then_r ?_ | refine QW.block_n ?_ | refine QW.block_xe ?_ | refine QW.block_xn rfl ?_ | refine QW.block_r ?_))
  refine CW.loop (σ := Nat × Nat × List Value × Nat) (fun s => s.1 ≤ 70 ∧ (0 < s.1 → (u8s ((List.replicate n0 (BitVec.ofInt 8 (0 % 125))) ++ List.replicate s.1 (BitVec.ofInt 8 (125 + 0 % 125))) ++ s.2.2.1).length = s.2.2.2))
    (fun s => [(0, sl (some bl) 0 3 3), (5, sl none 0 0 0), (6, .int .i64 0), (8, .int .i64 (s.1 : Int)), (7, match s.1 with | 0 => sl o0 0 n0 n0 | k + 1 => sl (some s.2.1) 0 (n0 + (k + 1)) s.2.2.2)])
    (fun s => match s.1 with | 0 => (none, blk ([] ++ []) 22) :: (o2, blk (u8s (List.replicate n2 (BitVec.ofInt 8 (2 % 125)))) 5) :: (o1, blk (u8s (List.replicate n1 (BitVec.ofInt 8 (1 % 125)))) 5) :: (o0, blk (u8s (List.replicate n0 (BitVec.ofInt 8 (0 % 125)))) 5) :: (some bl, blk [sl o0 0 n0 n0, sl o1 0 n1 n1, sl o2 0 n2 n2] 22) :: M | k + 1 => (some s.2.1, blk (u8s ((List.replicate n0 (BitVec.ofInt 8 (0 % 125))) ++ List.replicate (k + 1) (BitVec.ofInt 8 (125 + 0 % 125))) ++ s.2.2.1) 5) :: (none, blk ([] ++ []) 22) :: (o2, blk (u8s (List.replicate n2 (BitVec.ofInt 8 (2 % 125)))) 5) :: (o1, blk (u8s (List.replicate n1 (BitVec.ofInt 8 (1 % 125)))) 5) :: (o0, blk (u8s (List.replicate n0 (BitVec.ofInt 8 (0 % 125)))) 5) :: (some bl, blk [sl o0 0 n0 n0, sl o1 0 n1 n1, sl o2 0 n2 n2] 22) :: M) (fun s => 70 - s.1) (0, 0, [], 0)
    ⟨by show 0 ≤ 70; omega, fun h => absurd h (by decide)⟩ ⟨rfl, rfl, rfl, rfl, rfl, trivial⟩ (fun _ m => m) ?_
  rintro ⟨k, c, r, cap⟩ ⟨hk, hr⟩
  dsimp only at hk hr ⊢
  (repeat (first | refine CW.seq ?_ | refine QW.then_n ?_ | refine CW.block ?_ | refine CW.ret ?_ | refine CW.skip ?_ | refine CW.exit ?_ | refine QW.then_x ?_ | refine QW.then_r ?_ | refine QW.block_n ?_ | refine QW.block_xe ?_ | refine QW.block_xn rfl ?_ | refine QW.block_r ?_))
  refine CW.region ?_
  refine OW.rv (RV.move rfl) rfl ?_
  refine OW.rv (RV.lss rfl rfl) rfl ?_
  refine OW.nil ?_
  (repeat (first | refine CW.seq ?_ | refine QW.then_n ?_ | refine CW.block ?_ | refine CW.ret ?_ | refine CW.skip ?_ | refine CW.exit ?_ | refine QW.then_x ?_ | refine QW.then_r ?_ | refine QW.block_n ?_ | refine QW.block_xe ?_ | refine QW.block_xn rfl ?_ | refine QW.block_r ?_))
  (first | refine CW.cond_t rfl ?_ | refine CW.cond_f rfl ?_ | refine CW.cond_p rfl (fun hlt => ?_) (fun hlt => ?_) | refine CW.cond_np rfl (fun hlt => ?_) (fun hlt => ?_) | refine CW.cond rfl (fun hlt => ?_) (fun hlt => ?_))
  · rcases k with _ | k
    · have hA : Mem.Says w0 ((none, blk ([] ++ []) 22) :: (o2, blk (u8s (List.replicate n2 (BitVec.ofInt 8 (2 % 125)))) 5) :: (o1, blk (u8s (List.replicate n1 (BitVec.ofInt 8 (1 % 125)))) 5) :: (o0, blk (u8s (List.replicate n0 (BitVec.ofInt 8 (0 % 125)))) 5) :: (some bl, blk [sl o0 0 n0 n0, sl o1 0 n1 n1, sl o2 0 n2 n2] 22) :: M) (fun w => Rd w (o0.map fun k => ⟨k, 0, none⟩) (u8s (List.replicate n0 (BitVec.ofInt 8 (0 % 125))))) := fun w m => m.rdl (t := 5) (by repeat (first | exact List.Mem.head _ | refine List.Mem.tail _ ?_)) (fun h => by rw [hn0 h]; rfl)
      have hAn : (o0.map fun k => (⟨k, 0, none⟩ : Addr)) = none → n0 = 0 := fun h => hn0 (by simpa using h)
      have e0 : u8s ((List.replicate n0 (BitVec.ofInt 8 (0 % 125))) ++ List.replicate 1 (BitVec.ofInt 8 (125 + 0 % 125))) = u8s (List.replicate n0 (BitVec.ofInt 8 (0 % 125))) ++ [U8 (BitVec.ofInt 8 (125 + 0 % 125))] := by rw [← u8s_app]; rfl
      (repeat (first | refine CW.seq ?_ | refine QW.then_n ?_ | refine CW.block ?_ | refine CW.ret ?_ | refine CW.skip ?_ | refine CW.exit ?_ | refine QW.then_x ?_ | refine QW.then_r ?_ | refine QW.block_n ?_ | refine QW.block_xe ?_ | refine QW.block_xn rfl ?_ | refine QW.block_r ?_))
      refine CW.region ?_
      refine OW.rv (RV.move rfl) rfl ?_
      refine OW.rv (RV.move rfl) rfl ?_
      (first | refine OW.rv (RV.rem rfl rfl (by omega) (by omega)) rfl ?_ | refine OW.rv (RV.trem rfl rfl (by omega)) rfl ?_)
      refine OW.rv (RV.add rfl rfl (by omega)) rfl ?_
      refine OW.rv (RV.conv_i8 rfl rfl rfl) rfl ?_
      refine OW.pushG (l := u8s (List.replicate n0 (BitVec.ofInt 8 (0 % 125)))) rfl rfl rfl rfl rfl rfl rfl rfl (by first | assumption | rfl | simp | omega) (by repeat (first | assumption | refine Mem.Says.cons ?_)) (by first | assumption | exact (fun h => nomatch h)) (by omega) (by omega) (by simp only [i5]; omega) rfl rfl (fun b56 c56 r56 cap56 hr56 => ?_)
      refine OW.rv (RV.assign rfl) rfl ?_
      refine OW.nil ?_
      (repeat (first | refine CW.seq ?_ | refine QW.then_n ?_ | refine CW.block ?_ | refine CW.ret ?_ | refine CW.skip ?_ | refine CW.exit ?_ | refine QW.then_x ?_ | refine QW.then_r ?_ | refine QW.block_n ?_ | refine QW.block_xe ?_ | refine QW.block_xn rfl ?_ | refine QW.block_r ?_))
      (repeat (first | refine CW.seq ?_ | refine QW.then_n ?_ | refine CW.block ?_ | refine CW.ret ?_ | refine CW.skip ?_ | refine CW.exit ?_ | refine QW.then_x ?_ | refine QW.then_r ?_ | refine QW.block_n ?_ | refine QW.block_xe ?_ | refine QW.block_xn rfl ?_ | refine QW.block_r ?_))
      refine CW.region ?_
      refine OW.rv (RV.move rfl) rfl ?_
      refine OW.rv (RV.add rfl rfl (by omega)) rfl ?_
      refine OW.rv (RV.assign rfl) rfl ?_
      refine OW.nil ?_
      (repeat (first | refine CW.seq ?_ | refine QW.then_n ?_ | refine CW.block ?_ | refine CW.ret ?_ | refine CW.skip ?_ | refine CW.exit ?_ | refine QW.then_x ?_ | refine QW.then_r ?_ | refine QW.block_n ?_ | refine QW.block_xe ?_ | refine QW.block_xn rfl ?_ | refine QW.block_r ?_))
      refine QW.again (1, c56, r56, cap56) ⟨by show 1 ≤ 70; omega, fun _ => ?_⟩ (by show 70 - 1 < 70 - 0; omega) ⟨rfl, rfl, rfl, rfl, rfl, trivial⟩ (fun _ m => ?_)
      · rw [← hr56, ← e0]
      · rw [← e0] at m; exact m
    · have h5 : (u8s ((List.replicate n0 (BitVec.ofInt 8 (0 % 125))) ++ List.replicate (k + 1) (BitVec.ofInt 8 (125 + 0 % 125)))).length = n0 + (k + 1) := by simp
      have hr' := hr (by omega)
      (repeat (first | refine CW.seq ?_ | refine QW.then_n ?_ | refine CW.block ?_ | refine CW.ret ?_ | refine CW.skip ?_ | refine CW.exit ?_ | refine QW.then_x ?_ | refine QW.then_r ?_ | refine QW.block_n ?_ | refine QW.block_xe ?_ | refine QW.block_xn rfl ?_ | refine QW.block_r ?_))
      refine CW.region ?_
      refine OW.rv (RV.move rfl) rfl ?_
      refine OW.rv (RV.move rfl) rfl ?_
      (first | refine OW.rv (RV.rem rfl rfl (by omega) (by omega)) rfl ?_ | refine OW.rv (RV.trem rfl rfl (by omega)) rfl ?_)
      refine OW.rv (RV.add rfl rfl (by omega)) rfl ?_
      refine OW.rv (RV.conv_i8 rfl rfl rfl) rfl ?_
      (first | refine OW.push rfl rfl rfl rfl rfl rfl rfl rfl (by first | assumption | rfl | simp | omega) (by first | assumption | rfl | (simp; done)) (by first | assumption | exact (fun _ => rfl) | exact (fun h => nomatch h)) (by omega) (by simp only [i5]; omega) rfl rfl (fun b56 ob56 r56 cap56 hr56 hn56 => ?_) | (refine OW.rot1 ?_; refine OW.push rfl rfl rfl rfl rfl rfl rfl rfl (by first | assumption | rfl | simp | omega) (by first | assumption | rfl | (simp; done)) (by first | assumption | exact (fun _ => rfl) | exact (fun h => nomatch h)) (by omega) (by simp only [i5]; omega) rfl rfl (fun b56 ob56 r56 cap56 hr56 hn56 => ?_)) | (refine OW.rot2 ?_; refine OW.push rfl rfl rfl rfl rfl rfl rfl rfl (by first | assumption | rfl | simp | omega) (by first | assumption | rfl | (simp; done)) (by first | assumption | exact (fun _ => rfl) | exact (fun h => nomatch h)) (by omega) (by simp only [i5]; omega) rfl rfl (fun b56 ob56 r56 cap56 hr56 hn56 => ?_)) | (refine OW.rot3 ?_; refine OW.push rfl rfl rfl rfl rfl rfl rfl rfl (by first | assumption | rfl | simp | omega) (by first | assumption | rfl | (simp; done)) (by first | assumption | exact (fun _ => rfl) | exact (fun h => nomatch h)) (by omega) (by simp only [i5]; omega) rfl rfl (fun b56 ob56 r56 cap56 hr56 hn56 => ?_)))
      refine OW.rv (RV.assign rfl) rfl ?_
      refine OW.nil ?_
      (repeat (first | refine CW.seq ?_ | refine QW.then_n ?_ | refine CW.block ?_ | refine CW.ret ?_ | refine CW.skip ?_ | refine CW.exit ?_ | refine QW.then_x ?_ | refine QW.then_r ?_ | refine QW.block_n ?_ | refine QW.block_xe ?_ | refine QW.block_xn rfl ?_ | refine QW.block_r ?_))
      (repeat (first | refine CW.seq ?_ | refine QW.then_n ?_ | refine CW.block ?_ | refine CW.ret ?_ | refine CW.skip ?_ | refine CW.exit ?_ | refine QW.then_x ?_ | refine QW.then_r ?_ | refine QW.block_n ?_ | refine QW.block_xe ?_ | refine QW.block_xn rfl ?_ | refine QW.block_r ?_))
      refine CW.region ?_
      refine OW.rv (RV.move rfl) rfl ?_
      refine OW.rv (RV.add rfl rfl (by omega)) rfl ?_
      refine OW.rv (RV.assign rfl) rfl ?_
      refine OW.nil ?_
      (repeat (first | refine CW.seq ?_ | refine QW.then_n ?_ | refine CW.block ?_ | refine CW.ret ?_ | refine CW.skip ?_ | refine CW.exit ?_ | refine QW.then_x ?_ | refine QW.then_r ?_ | refine QW.block_n ?_ | refine QW.block_xe ?_ | refine QW.block_xn rfl ?_ | refine QW.block_r ?_))
      have e1 : u8s ((List.replicate n0 (BitVec.ofInt 8 (0 % 125))) ++ List.replicate (k + 1) (BitVec.ofInt 8 (125 + 0 % 125))) ++ [U8 (BitVec.ofInt 8 (125 + 0 % 125))] = u8s ((List.replicate n0 (BitVec.ofInt 8 (0 % 125))) ++ List.replicate (k + 1 + 1) (BitVec.ofInt 8 (125 + 0 % 125))) := by
        rw [List.replicate_succ' (n := k + 1), ← List.append_assoc, ← u8s_app _ [_]]; rfl
      rw [e1] at hr56
      cases ob56 with
      | none => have := hn56 rfl; rw [this] at hr56; simp at hr56
      | some c56 =>
        refine QW.again (k + 1 + 1, c56, r56, cap56) ⟨by show k + 1 + 1 ≤ 70; omega, fun _ => hr56⟩ (by show 70 - (k + 1 + 1) < 70 - (k + 1); omega) ⟨rfl, rfl, rfl, rfl, rfl, trivial⟩ (fun _ m => ?_)
        rw [e1] at m
        exact m
  obtain rfl : k = 70 := by omega
  have hr0 := hr (by omega)
  obtain ⟨c0, hcc⟩ : ∃ n, n = c := ⟨_, rfl⟩
  subst hcc
  obtain ⟨q0, hcc⟩ : ∃ n, n = r := ⟨_, rfl⟩
  subst hcc
  obtain ⟨cap0, hcc⟩ : ∃ n, n = cap := ⟨_, rfl⟩
  subst hcc
  clear hr hk hlt
  (repeat (first | refine CW.seq ?_ | refine QW.then_n ?_ | refine CW.block ?_ | refine CW.ret ?_ | refine CW.skip ?_ | refine CW.exit ?_ | refine QW.then_x ?_ | refine QW.then_r ?_ | refine QW.block_n ?_ | refine QW.block_xe ?_ | refine QW.block_xn rfl ?_ | refine QW.block_r ?_))
  refine CW.state (L' := [(0, sl (some bl) 0 3 3), (5, sl none 0 0 0), (6, .int .i64 0), (7, sl (some c0) 0 (n0 + 70) cap0)]) (M' := (none, blk ([] ++ []) 22) :: (some c0, blk (u8s ((List.replicate n0 (BitVec.ofInt 8 (0 % 125))) ++ List.replicate 70 (BitVec.ofInt 8 (125 + 0 % 125))) ++ q0) 5) :: (o2, blk (u8s (List.replicate n2 (BitVec.ofInt 8 (2 % 125)))) 5) :: (o1, blk (u8s (List.replicate n1 (BitVec.ofInt 8 (1 % 125)))) 5) :: (o0, blk (u8s (List.replicate n0 (BitVec.ofInt 8 (0 % 125)))) 5) :: (some bl, blk [sl o0 0 n0 n0, sl o1 0 n1 n1, sl o2 0 n2 n2] 22) :: M) ⟨rfl, rfl, rfl, rfl, trivial⟩ (fun _ m => m.rot1) ?_
  (repeat (first | refine CW.seq ?_ | refine QW.then_n ?_ | refine CW.block ?_ | refine CW.ret ?_ | refine CW.skip ?_ | refine CW.exit ?_ | refine QW.then_x ?_ | refine QW.then_r ?_ | refine QW.block_n ?_ | refine QW.block_xe ?_ | refine QW.block_xn rfl ?_ | refine QW.block_r ?_))
  refine CW.region ?_
  refine OW.rv (RV.move rfl) rfl ?_
  refine OW.rv (RV.move rfl) rfl ?_
  (first | refine OW.push rfl rfl rfl rfl rfl rfl rfl rfl (by first | assumption | rfl | simp | omega) (by first | assumption | rfl | (simp; done)) (by first | assumption | exact (fun _ => rfl) | exact (fun h => nomatch h)) (by omega) (by simp only [i22]; omega) rfl rfl (fun b60 ob60 r60 cap60 hr60 hn60 => ?_) | (refine OW.rot1 ?_; refine OW.push rfl rfl rfl rfl rfl rfl rfl rfl (by first | assumption | rfl | simp | omega) (by first | assumption | rfl | (simp; done)) (by first | assumption | exact (fun _ => rfl) | exact (fun h => nomatch h)) (by omega) (by simp only [i22]; omega) rfl rfl (fun b60 ob60 r60 cap60 hr60 hn60 => ?_)) | (refine OW.rot2 ?_; refine OW.push rfl rfl rfl rfl rfl rfl rfl rfl (by first | assumption | rfl | simp | omega) (by first | assumption | rfl | (simp; done)) (by first | assumption | exact (fun _ => rfl) | exact (fun h => nomatch h)) (by omega) (by simp only [i22]; omega) rfl rfl (fun b60 ob60 r60 cap60 hr60 hn60 => ?_)) | (refine OW.rot3 ?_; refine OW.push rfl rfl rfl rfl rfl rfl rfl rfl (by first | assumption | rfl | simp | omega) (by first | assumption | rfl | (simp; done)) (by first | assumption | exact (fun _ => rfl) | exact (fun h => nomatch h)) (by omega) (by simp only [i22]; omega) rfl rfl (fun b60 ob60 r60 cap60 hr60 hn60 => ?_)))
  refine OW.rv (RV.assign rfl) rfl ?_
  refine OW.nil ?_
  (repeat (first | refine CW.seq ?_ | refine QW.then_n ?_ | refine CW.block ?_ | refine CW.ret ?_ | refine CW.skip ?_ | refine CW.exit ?_ | refine QW.then_x ?_ | refine QW.then_r ?_ | refine QW.block_n ?_ | refine QW.block_xe ?_ | refine QW.block_xn rfl ?_ | refine QW.block_r ?_))
  (repeat (first | refine CW.seq ?_ | refine QW.then_n ?_ | refine CW.block ?_ | refine CW.ret ?_ | refine CW.skip ?_ | refine CW.exit ?_ | refine QW.then_x ?_ | refine QW.then_r ?_ | refine QW.block_n ?_ | refine QW.block_xe ?_ | refine QW.block_xn rfl ?_ | refine QW.block_r ?_))
  refine CW.region ?_
  refine OW.rv (RV.move rfl) rfl ?_
  refine OW.rv (RV.add rfl rfl (by omega)) rfl ?_
  refine OW.rv (RV.assign rfl) rfl ?_
  refine OW.nil ?_
  (repeat (first | refine CW.seq ?_ | refine QW.then_n ?_ | refine CW.block ?_ | refine CW.ret ?_ | refine CW.skip ?_ | refine CW.exit ?_ | refine QW.then_x ?_ | refine QW.then_r ?_ | refine QW.block_n ?_ | refine QW.block_xe ?_ | refine QW.block_xn rfl ?_ | refine QW.block_r ?_))
  refine QW.then_k ?_
  obtain ⟨om0, hcc⟩ : ∃ n, n = ob60 := ⟨_, rfl⟩
  subst hcc
  obtain ⟨rm0, hcc⟩ : ∃ n, n = r60 := ⟨_, rfl⟩
  subst hcc
  obtain ⟨cm0, hcc⟩ : ∃ n, n = cap60 := ⟨_, rfl⟩
  subst hcc
  have hm0 := hr60
  have hmn0 := hn60
  clear hr60 hn60
  refine RW.state (L' := [(0, sl (some bl) 0 3 3), (5, sl om0 0 1 cm0), (6, .int .i64 1)]) ⟨rfl, rfl, rfl, trivial⟩ (fun _ m => m) ?_
  refine RW.succ ?_
  (repeat (first | refine CW.seq ?_ | refine QW.then_n ?_ | refine CW.block ?_ | refine CW.ret ?_ | refine CW.skip ?_ | refine CW.exit ?_ | refine QW.then_x ?_ | refine QW.then_r ?_ | refine QW.block_n ?_ | refine QW.block_xe ?_ | refine QW.block_xn rfl ?_ | refine QW.block_r ?_))
  refine CW.region ?_
  refine OW.rv (RV.move rfl) rfl ?_
  refine OW.rv (RV.move rfl) rfl ?_
  refine OW.rv (RV.len rfl rfl) rfl ?_
  (first | refine OW.rv (RV.lss_t rfl rfl (by omega)) rfl ?_ | refine OW.rv (RV.lss_f rfl rfl (by omega)) rfl ?_ | refine OW.rv (RV.lss rfl rfl) rfl ?_)
  refine OW.nil ?_
  (repeat (first | refine CW.seq ?_ | refine QW.then_n ?_ | refine CW.block ?_ | refine CW.ret ?_ | refine CW.skip ?_ | refine CW.exit ?_ | refine QW.then_x ?_ | refine QW.then_r ?_ | refine QW.block_n ?_ | refine QW.block_xe ?_ | refine QW.block_xn rfl ?_ | refine QW.block_r ?_))
  (first | refine CW.cond_t rfl ?_ | refine CW.cond_f rfl ?_ | refine CW.cond_p rfl (fun h => ?_) (fun h => ?_) | refine CW.cond_np rfl (fun h => ?_) (fun h => ?_) | refine CW.cond rfl (fun h => ?_) (fun h => ?_))
  (repeat (first | refine CW.seq ?_ | refine QW.then_n ?_ | refine CW.block ?_ | refine CW.ret ?_ | refine CW.skip ?_ | refine CW.exit ?_ | refine QW.then_x ?_ | refine QW.then_r ?_ | refine QW.block_n ?_ | refine QW.block_xe ?_ | refine QW.block_xn rfl ?_ | refine QW.block_r ?_))
  refine CW.region ?_
  refine OW.rv (RV.move rfl) rfl ?_
  refine OW.rv (RV.move rfl) rfl ?_
  (first | refine OW.rv (RV.idx_o _ rfl rfl rfl rfl rfl (by first | rfl | assumption) (by omega)) rfl ?_ | refine OW.rv (RV.idx_r _ rfl rfl rfl rfl rfl (by first | rfl | assumption) (by omega)) rfl ?_ | refine OW.rv (RV.idx_oz rfl rfl (by omega) rfl rfl (by first | rfl | assumption) (by omega)) rfl ?_ | refine OW.rv (RV.idx_rz rfl rfl (by omega) rfl rfl (by first | rfl | assumption) (by omega)) rfl ?_)
  (first | refine OW.rv (RV.load rfl (by repeat (first | exact List.Mem.head _ | refine List.Mem.tail _ ?_)) (by first | rfl | assumption) rfl rfl (by first | rfl | assumption)) rfl ?_ | refine OW.rv (RV.load_at rfl rfl rfl (by repeat (first | assumption | refine Mem.Says.cons ?_))) rfl ?_)
  refine OW.rv (RV.assign rfl) rfl ?_
  refine OW.nil ?_
  (repeat (first | refine CW.seq ?_ | refine QW.then_n ?_ | refine CW.block ?_ | refine CW.ret ?_ | refine CW.skip ?_ | refine CW.exit ?_ | refine QW.then_x ?_ | refine QW.then_r ?_ | refine QW.block_n ?_ | refine QW.block_xe ?_ | refine QW.block_xn rfl ?_ | refine QW.block_r ?_))
  (repeat (first | refine CW.seq ?_ | refine QW.then_n ?_ | refine CW.block ?_ | refine CW.ret ?_ | refine CW.skip ?_ | refine CW.exit ?_ | refine QW.then_x ?_ | refine QW.then_r ?_ | refine QW.block_n ?_ | refine QW.block_xe ?_ | refine QW.block_xn rfl ?_ | refine QW.block_r ?_))
  refine CW.region ?_
  refine OW.rv (RV.assign rfl) rfl ?_
  refine OW.nil ?_
  (repeat (first | refine CW.seq ?_ | refine QW.then_n ?_ | refine CW.block ?_ | refine CW.ret ?_ | refine CW.skip ?_ | refine CW.exit ?_ | refine QW.then_x ?_ | refine QW.then_r ?_ | refine QW.block_n ?_ | refine QW.block_xe ?_ | refine QW.block_xn rfl ?_ | refine QW.block_r ?_))
  refine CW.loop (σ := Nat × Nat × List Value × Nat) (fun s => s.1 ≤ 70 ∧ (0 < s.1 → (u8s ((List.replicate n1 (BitVec.ofInt 8 (1 % 125))) ++ List.replicate s.1 (BitVec.ofInt 8 (125 + 1 % 125))) ++ s.2.2.1).length = s.2.2.2))
    (fun s => [(0, sl (some bl) 0 3 3), (5, sl om0 0 1 cm0), (6, .int .i64 1), (8, .int .i64 (s.1 : Int)), (7, match s.1 with | 0 => sl o1 0 n1 n1 | k + 1 => sl (some s.2.1) 0 (n1 + (k + 1)) s.2.2.2)])
    (fun s => match s.1 with | 0 => (om0, blk ([] ++ [sl (some c0) 0 (n0 + 70) cap0] ++ rm0) 22) :: (some c0, blk (u8s ((List.replicate n0 (BitVec.ofInt 8 (0 % 125))) ++ List.replicate 70 (BitVec.ofInt 8 (125 + 0 % 125))) ++ q0) 5) :: (o2, blk (u8s (List.replicate n2 (BitVec.ofInt 8 (2 % 125)))) 5) :: (o1, blk (u8s (List.replicate n1 (BitVec.ofInt 8 (1 % 125)))) 5) :: (o0, blk (u8s (List.replicate n0 (BitVec.ofInt 8 (0 % 125)))) 5) :: (some bl, blk [sl o0 0 n0 n0, sl o1 0 n1 n1, sl o2 0 n2 n2] 22) :: M | k + 1 => (some s.2.1, blk (u8s ((List.replicate n1 (BitVec.ofInt 8 (1 % 125))) ++ List.replicate (k + 1) (BitVec.ofInt 8 (125 + 1 % 125))) ++ s.2.2.1) 5) :: (om0, blk ([] ++ [sl (some c0) 0 (n0 + 70) cap0] ++ rm0) 22) :: (some c0, blk (u8s ((List.replicate n0 (BitVec.ofInt 8 (0 % 125))) ++ List.replicate 70 (BitVec.ofInt 8 (125 + 0 % 125))) ++ q0) 5) :: (o2, blk (u8s (List.replicate n2 (BitVec.ofInt 8 (2 % 125)))) 5) :: (o1, blk (u8s (List.replicate n1 (BitVec.ofInt 8 (1 % 125)))) 5) :: (o0, blk (u8s (List.replicate n0 (BitVec.ofInt 8 (0 % 125)))) 5) :: (some bl, blk [sl o0 0 n0 n0, sl o1 0 n1 n1, sl o2 0 n2 n2] 22) :: M) (fun s => 70 - s.1) (0, 0, [], 0)
    ⟨by show 0 ≤ 70; omega, fun h => absurd h (by decide)⟩ ⟨rfl, rfl, rfl, rfl, rfl, trivial⟩ (fun _ m => m) ?_
  rintro ⟨k, c, r, cap⟩ ⟨hk, hr⟩
  dsimp only at hk hr ⊢
  (repeat (first | refine CW.seq ?_ | refine QW.then_n ?_ | refine CW.block ?_ | refine CW.ret ?_ | refine CW.skip ?_ | refine CW.exit ?_ | refine QW.then_x ?_ | refine QW.then_r ?_ | refine QW.block_n ?_ | refine QW.block_xe ?_ | refine QW.block_xn rfl ?_ | refine QW.block_r ?_))
  refine CW.region ?_
  refine OW.rv (RV.move rfl) rfl ?_
  refine OW.rv (RV.lss rfl rfl) rfl ?_
  refine OW.nil ?_
  (repeat (first | refine CW.seq ?_ | refine QW.then_n ?_ | refine CW.block ?_ | refine CW.ret ?_ | refine CW.skip ?_ | refine CW.exit ?_ | refine QW.then_x ?_ | refine QW.then_r ?_ | refine QW.block_n ?_ | refine QW.block_xe ?_ | refine QW.block_xn rfl ?_ | refine QW.block_r ?_))
  (first | refine CW.cond_t rfl ?_ | refine CW.cond_f rfl ?_ | refine CW.cond_p rfl (fun hlt => ?_) (fun hlt => ?_) | refine CW.cond_np rfl (fun hlt => ?_) (fun hlt => ?_) | refine CW.cond rfl (fun hlt => ?_) (fun hlt => ?_))
  · rcases k with _ | k
    · have hA : Mem.Says w0 ((om0, blk ([] ++ [sl (some c0) 0 (n0 + 70) cap0] ++ rm0) 22) :: (some c0, blk (u8s ((List.replicate n0 (BitVec.ofInt 8 (0 % 125))) ++ List.replicate 70 (BitVec.ofInt 8 (125 + 0 % 125))) ++ q0) 5) :: (o2, blk (u8s (List.replicate n2 (BitVec.ofInt 8 (2 % 125)))) 5) :: (o1, blk (u8s (List.replicate n1 (BitVec.ofInt 8 (1 % 125)))) 5) :: (o0, blk (u8s (List.replicate n0 (BitVec.ofInt 8 (0 % 125)))) 5) :: (some bl, blk [sl o0 0 n0 n0, sl o1 0 n1 n1, sl o2 0 n2 n2] 22) :: M) (fun w => Rd w (o1.map fun k => ⟨k, 0, none⟩) (u8s (List.replicate n1 (BitVec.ofInt 8 (1 % 125))))) := fun w m => m.rdl (t := 5) (by repeat (first | exact List.Mem.head _ | refine List.Mem.tail _ ?_)) (fun h => by rw [hn1 h]; rfl)
      have hAn : (o1.map fun k => (⟨k, 0, none⟩ : Addr)) = none → n1 = 0 := fun h => hn1 (by simpa using h)
      have e0 : u8s ((List.replicate n1 (BitVec.ofInt 8 (1 % 125))) ++ List.replicate 1 (BitVec.ofInt 8 (125 + 1 % 125))) = u8s (List.replicate n1 (BitVec.ofInt 8 (1 % 125))) ++ [U8 (BitVec.ofInt 8 (125 + 1 % 125))] := by rw [← u8s_app]; rfl
      (repeat (first | refine CW.seq ?_ | refine QW.then_n ?_ | refine CW.block ?_ | refine CW.ret ?_ | refine CW.skip ?_ | refine CW.exit ?_ | refine QW.then_x ?_ | refine QW.then_r ?_ | refine QW.block_n ?_ | refine QW.block_xe ?_ | refine QW.block_xn rfl ?_ | refine QW.block_r ?_))
      refine CW.region ?_
      refine OW.rv (RV.move rfl) rfl ?_
      refine OW.rv (RV.move rfl) rfl ?_
      (first | refine OW.rv (RV.rem rfl rfl (by omega) (by omega)) rfl ?_ | refine OW.rv (RV.trem rfl rfl (by omega)) rfl ?_)
      refine OW.rv (RV.add rfl rfl (by omega)) rfl ?_
      refine OW.rv (RV.conv_i8 rfl rfl rfl) rfl ?_
      refine OW.pushG (l := u8s (List.replicate n1 (BitVec.ofInt 8 (1 % 125)))) rfl rfl rfl rfl rfl rfl rfl rfl (by first | assumption | rfl | simp | omega) (by repeat (first | assumption | refine Mem.Says.cons ?_)) (by first | assumption | exact (fun h => nomatch h)) (by omega) (by omega) (by simp only [i5]; omega) rfl rfl (fun b56 c56 r56 cap56 hr56 => ?_)
      refine OW.rv (RV.assign rfl) rfl ?_
      refine OW.nil ?_
      (repeat (first | refine CW.seq ?_ | refine QW.then_n ?_ | refine CW.block ?_ | refine CW.ret ?_ | refine CW.skip ?_ | refine CW.exit ?_ | refine QW.then_x ?_ | refine QW.then_r ?_ | refine QW.block_n ?_ | refine QW.block_xe ?_ | refine QW.block_xn rfl ?_ | refine QW.block_r ?_))
      (repeat (first | refine CW.seq ?_ | refine QW.then_n ?_ | refine CW.block ?_ | refine CW.ret ?_ | refine CW.skip ?_ | refine CW.exit ?_ | refine QW.then_x ?_ | refine QW.then_r ?_ | refine QW.block_n ?_ | refine QW.block_xe ?_ | refine QW.block_xn rfl ?_ | refine QW.block_r ?_))
      refine CW.region ?_
      refine OW.rv (RV.move rfl) rfl ?_
      refine OW.rv (RV.add rfl rfl (by omega)) rfl ?_
      refine OW.rv (RV.assign rfl) rfl ?_
      refine OW.nil ?_
      (repeat (first | refine CW.seq ?_ | refine QW.then_n ?_ | refine CW.block ?_ | refine CW.ret ?_ | refine CW.skip ?_ | refine CW.exit ?_ | refine QW.then_x ?_ | refine QW.then_r ?_ | refine QW.block_n ?_ | refine QW.block_xe ?_ | refine QW.block_xn rfl ?_ | refine QW.block_r ?_))
      refine QW.again (1, c56, r56, cap56) ⟨by show 1 ≤ 70; omega, fun _ => ?_⟩ (by show 70 - 1 < 70 - 0; omega) ⟨rfl, rfl, rfl, rfl, rfl, trivial⟩ (fun _ m => ?_)
      · rw [← hr56, ← e0]
      · rw [← e0] at m; exact m
    · have h5 : (u8s ((List.replicate n1 (BitVec.ofInt 8 (1 % 125))) ++ List.replicate (k + 1) (BitVec.ofInt 8 (125 + 1 % 125)))).length = n1 + (k + 1) := by simp
      have hr' := hr (by omega)
      (repeat (first | refine CW.seq ?_ | refine QW.then_n ?_ | refine CW.block ?_ | refine CW.ret ?_ | refine CW.skip ?_ | refine CW.exit ?_ | refine QW.then_x ?_ | refine QW.then_r ?_ | refine QW.block_n ?_ | refine QW.block_xe ?_ | refine QW.block_xn rfl ?_ | refine QW.block_r ?_))
      refine CW.region ?_
      refine OW.rv (RV.move rfl) rfl ?_
      refine OW.rv (RV.move rfl) rfl ?_
      (first | refine OW.rv (RV.rem rfl rfl (by omega) (by omega)) rfl ?_ | refine OW.rv (RV.trem rfl rfl (by omega)) rfl ?_)
      refine OW.rv (RV.add rfl rfl (by omega)) rfl ?_
      refine OW.rv (RV.conv_i8 rfl rfl rfl) rfl ?_
      (first | refine OW.push rfl rfl rfl rfl rfl rfl rfl rfl (by first | assumption | rfl | simp | omega) (by first | assumption | rfl | (simp; done)) (by first | assumption | exact (fun _ => rfl) | exact (fun h => nomatch h)) (by omega) (by simp only [i5]; omega) rfl rfl (fun b56 ob56 r56 cap56 hr56 hn56 => ?_) | (refine OW.rot1 ?_; refine OW.push rfl rfl rfl rfl rfl rfl rfl rfl (by first | assumption | rfl | simp | omega) (by first | assumption | rfl | (simp; done)) (by first | assumption | exact (fun _ => rfl) | exact (fun h => nomatch h)) (by omega) (by simp only [i5]; omega) rfl rfl (fun b56 ob56 r56 cap56 hr56 hn56 => ?_)) | (refine OW.rot2 ?_; refine OW.push rfl rfl rfl rfl rfl rfl rfl rfl (by first | assumption | rfl | simp | omega) (by first | assumption | rfl | (simp; done)) (by first | assumption | exact (fun _ => rfl) | exact (fun h => nomatch h)) (by omega) (by simp only [i5]; omega) rfl rfl (fun b56 ob56 r56 cap56 hr56 hn56 => ?_)) | (refine OW.rot3 ?_; refine OW.push rfl rfl rfl rfl rfl rfl rfl rfl (by first | assumption | rfl | simp | omega) (by first | assumption | rfl | (simp; done)) (by first | assumption | exact (fun _ => rfl) | exact (fun h => nomatch h)) (by omega) (by simp only [i5]; omega) rfl rfl (fun b56 ob56 r56 cap56 hr56 hn56 => ?_)))
      refine OW.rv (RV.assign rfl) rfl ?_
      refine OW.nil ?_
      (repeat (first | refine CW.seq ?_ | refine QW.then_n ?_ | refine CW.block ?_ | refine CW.ret ?_ | refine CW.skip ?_ | refine CW.exit ?_ | refine QW.then_x ?_ | refine QW.then_r ?_ | refine QW.block_n ?_ | refine QW.block_xe ?_ | refine QW.block_xn rfl ?_ | refine QW.block_r ?_))
      (repeat (first | refine CW.seq ?_ | refine QW.then_n ?_ | refine CW.block ?_ | refine CW.ret ?_ | refine CW.skip ?_ | refine CW.exit ?_ | refine QW.then_x ?_ | refine QW.then_r ?_ | refine QW.block_n ?_ | refine QW.block_xe ?_ | refine QW.block_xn rfl ?_ | refine QW.block_r ?_))
      refine CW.region ?_
      refine OW.rv (RV.move rfl) rfl ?_
      refine OW.rv (RV.add rfl rfl (by omega)) rfl ?_
      refine OW.rv (RV.assign rfl) rfl ?_
      refine OW.nil ?_
      (repeat (first | refine CW.seq ?_ | refine QW.then_n ?_ | refine CW.block ?_ | refine CW.ret ?_ | refine CW.skip ?_ | refine CW.exit ?_ | refine QW.then_x ?_ | refine QW.then_r ?_ | refine QW.block_n ?_ | refine QW.block_xe ?_ | refine QW.block_xn rfl ?_ | refine QW.block_r ?_))
      have e1 : u8s ((List.replicate n1 (BitVec.ofInt 8 (1 % 125))) ++ List.replicate (k + 1) (BitVec.ofInt 8 (125 + 1 % 125))) ++ [U8 (BitVec.ofInt 8 (125 + 1 % 125))] = u8s ((List.replicate n1 (BitVec.ofInt 8 (1 % 125))) ++ List.replicate (k + 1 + 1) (BitVec.ofInt 8 (125 + 1 % 125))) := by
        rw [List.replicate_succ' (n := k + 1), ← List.append_assoc, ← u8s_app _ [_]]; rfl
      rw [e1] at hr56
      cases ob56 with
      | none => have := hn56 rfl; rw [this] at hr56; simp at hr56
      | some c56 =>
        refine QW.again (k + 1 + 1, c56, r56, cap56) ⟨by show k + 1 + 1 ≤ 70; omega, fun _ => hr56⟩ (by show 70 - (k + 1 + 1) < 70 - (k + 1); omega) ⟨rfl, rfl, rfl, rfl, rfl, trivial⟩ (fun _ m => ?_)
        rw [e1] at m
        exact m
  obtain rfl : k = 70 := by omega
  have hr1 := hr (by omega)
  obtain ⟨c1, hcc⟩ : ∃ n, n = c := ⟨_, rfl⟩
  subst hcc
  obtain ⟨q1, hcc⟩ : ∃ n, n = r := ⟨_, rfl⟩
  subst hcc
  obtain ⟨cap1, hcc⟩ : ∃ n, n = cap := ⟨_, rfl⟩
  subst hcc
  clear hr hk hlt
  (repeat (first | refine CW.seq ?_ | refine QW.then_n ?_ | refine CW.block ?_ | refine CW.ret ?_ | refine CW.skip ?_ | refine CW.exit ?_ | refine QW.then_x ?_ | refine QW.then_r ?_ | refine QW.block_n ?_ | refine QW.block_xe ?_ | refine QW.block_xn rfl ?_ | refine QW.block_r ?_))
  refine CW.state (L' := [(0, sl (some bl) 0 3 3), (5, sl om0 0 1 cm0), (6, .int .i64 1), (7, sl (some c1) 0 (n1 + 70) cap1)]) (M' := (om0, blk ([] ++ [sl (some c0) 0 (n0 + 70) cap0] ++ rm0) 22) :: (some c1, blk (u8s ((List.replicate n1 (BitVec.ofInt 8 (1 % 125))) ++ List.replicate 70 (BitVec.ofInt 8 (125 + 1 % 125))) ++ q1) 5) :: (some c0, blk (u8s ((List.replicate n0 (BitVec.ofInt 8 (0 % 125))) ++ List.replicate 70 (BitVec.ofInt 8 (125 + 0 % 125))) ++ q0) 5) :: (o2, blk (u8s (List.replicate n2 (BitVec.ofInt 8 (2 % 125)))) 5) :: (o1, blk (u8s (List.replicate n1 (BitVec.ofInt 8 (1 % 125)))) 5) :: (o0, blk (u8s (List.replicate n0 (BitVec.ofInt 8 (0 % 125)))) 5) :: (some bl, blk [sl o0 0 n0 n0, sl o1 0 n1 n1, sl o2 0 n2 n2] 22) :: M) ⟨rfl, rfl, rfl, rfl, trivial⟩ (fun _ m => m.rot1) ?_
  (repeat (first | refine CW.seq ?_ | refine QW.then_n ?_ | refine CW.block ?_ | refine CW.ret ?_ | refine CW.skip ?_ | refine CW.exit ?_ | refine QW.then_x ?_ | refine QW.then_r ?_ | refine QW.block_n ?_ | refine QW.block_xe ?_ | refine QW.block_xn rfl ?_ | refine QW.block_r ?_))
  refine CW.region ?_
  refine OW.rv (RV.move rfl) rfl ?_
  refine OW.rv (RV.move rfl) rfl ?_
  (first | refine OW.push rfl rfl rfl rfl rfl rfl rfl rfl (by first | assumption | rfl | simp | omega) (by first | assumption | rfl | (simp; done)) (by first | assumption | exact (fun _ => rfl) | exact (fun h => nomatch h)) (by omega) (by simp only [i22]; omega) rfl rfl (fun b60 ob60 r60 cap60 hr60 hn60 => ?_) | (refine OW.rot1 ?_; refine OW.push rfl rfl rfl rfl rfl rfl rfl rfl (by first | assumption | rfl | simp | omega) (by first | assumption | rfl | (simp; done)) (by first | assumption | exact (fun _ => rfl) | exact (fun h => nomatch h)) (by omega) (by simp only [i22]; omega) rfl rfl (fun b60 ob60 r60 cap60 hr60 hn60 => ?_)) | (refine OW.rot2 ?_; refine OW.push rfl rfl rfl rfl rfl rfl rfl rfl (by first | assumption | rfl | simp | omega) (by first | assumption | rfl | (simp; done)) (by first | assumption | exact (fun _ => rfl) | exact (fun h => nomatch h)) (by omega) (by simp only [i22]; omega) rfl rfl (fun b60 ob60 r60 cap60 hr60 hn60 => ?_)) | (refine OW.rot3 ?_; refine OW.push rfl rfl rfl rfl rfl rfl rfl rfl (by first | assumption | rfl | simp | omega) (by first | assumption | rfl | (simp; done)) (by first | assumption | exact (fun _ => rfl) | exact (fun h => nomatch h)) (by omega) (by simp only [i22]; omega) rfl rfl (fun b60 ob60 r60 cap60 hr60 hn60 => ?_)))
  refine OW.rv (RV.assign rfl) rfl ?_
  refine OW.nil ?_
  (repeat (first | refine CW.seq ?_ | refine QW.then_n ?_ | refine CW.block ?_ | refine CW.ret ?_ | refine CW.skip ?_ | refine CW.exit ?_ | refine QW.then_x ?_ | refine QW.then_r ?_ | refine QW.block_n ?_ | refine QW.block_xe ?_ | refine QW.block_xn rfl ?_ | refine QW.block_r ?_))
  (repeat (first | refine CW.seq ?_ | refine QW.then_n ?_ | refine CW.block ?_ | refine CW.ret ?_ | refine CW.skip ?_ | refine CW.exit ?_ | refine QW.then_x ?_ | refine QW.then_r ?_ | refine QW.block_n ?_ | refine QW.block_xe ?_ | refine QW.block_xn rfl ?_ | refine QW.block_r ?_))
  refine CW.region ?_
  refine OW.rv (RV.move rfl) rfl ?_
  refine OW.rv (RV.add rfl rfl (by omega)) rfl ?_
  refine OW.rv (RV.assign rfl) rfl ?_
  refine OW.nil ?_
  (repeat (first | refine CW.seq ?_ | refine QW.then_n ?_ | refine CW.block ?_ | refine CW.ret ?_ | refine CW.skip ?_ | refine CW.exit ?_ | refine QW.then_x ?_ | refine QW.then_r ?_ | refine QW.block_n ?_ | refine QW.block_xe ?_ | refine QW.block_xn rfl ?_ | refine QW.block_r ?_))
  refine QW.then_k ?_
  obtain ⟨om1, hcc⟩ : ∃ n, n = ob60 := ⟨_, rfl⟩
  subst hcc
  obtain ⟨rm1, hcc⟩ : ∃ n, n = r60 := ⟨_, rfl⟩
  subst hcc
  obtain ⟨cm1, hcc⟩ : ∃ n, n = cap60 := ⟨_, rfl⟩
  subst hcc
  have hm1 := hr60
  have hmn1 := hn60
  clear hr60 hn60
  refine RW.state (L' := [(0, sl (some bl) 0 3 3), (5, sl om1 0 2 cm1), (6, .int .i64 2)]) ⟨rfl, rfl, rfl, trivial⟩ (fun _ m => m) ?_
  refine RW.succ ?_
  (repeat (first | refine CW.seq ?_ | refine QW.then_n ?_ | refine CW.block ?_ | refine CW.ret ?_ | refine CW.skip ?_ | refine CW.exit ?_ | refine QW.then_x ?_ | refine QW.then_r ?_ | refine QW.block_n ?_ | refine QW.block_xe ?_ | refine QW.block_xn rfl ?_ | refine QW.block_r ?_))
  refine CW.region ?_
  refine OW.rv (RV.move rfl) rfl ?_
  refine OW.rv (RV.move rfl) rfl ?_
  refine OW.rv (RV.len rfl rfl) rfl ?_
  (first | refine OW.rv (RV.lss_t rfl rfl (by omega)) rfl ?_ | refine OW.rv (RV.lss_f rfl rfl (by omega)) rfl ?_ | refine OW.rv (RV.lss rfl rfl) rfl ?_)
  refine OW.nil ?_
  (repeat (first | refine CW.seq ?_ | refine QW.then_n ?_ | refine CW.block ?_ | refine CW.ret ?_ | refine CW.skip ?_ | refine CW.exit ?_ | refine QW.then_x ?_ | refine QW.then_r ?_ | refine QW.block_n ?_ | refine QW.block_xe ?_ | refine QW.block_xn rfl ?_ | refine QW.block_r ?_))
  (first | refine CW.cond_t rfl ?_ | refine CW.cond_f rfl ?_ | refine CW.cond_p rfl (fun h => ?_) (fun h => ?_) | refine CW.cond_np rfl (fun h => ?_) (fun h => ?_) | refine CW.cond rfl (fun h => ?_) (fun h => ?_))
  (repeat (first | refine CW.seq ?_ | refine QW.then_n ?_ | refine CW.block ?_ | refine CW.ret ?_ | refine CW.skip ?_ | refine CW.exit ?_ | refine QW.then_x ?_ | refine QW.then_r ?_ | refine QW.block_n ?_ | refine QW.block_xe ?_ | refine QW.block_xn rfl ?_ | refine QW.block_r ?_))
  refine CW.region ?_
  refine OW.rv (RV.move rfl) rfl ?_
  refine OW.rv (RV.move rfl) rfl ?_
  (first | refine OW.rv (RV.idx_o _ rfl rfl rfl rfl rfl (by first | rfl | assumption) (by omega)) rfl ?_ | refine OW.rv (RV.idx_r _ rfl rfl rfl rfl rfl (by first | rfl | assumption) (by omega)) rfl ?_ | refine OW.rv (RV.idx_oz rfl rfl (by omega) rfl rfl (by first | rfl | assumption) (by omega)) rfl ?_ | refine OW.rv (RV.idx_rz rfl rfl (by omega) rfl rfl (by first | rfl | assumption) (by omega)) rfl ?_)
  (first | refine OW.rv (RV.load rfl (by repeat (first | exact List.Mem.head _ | refine List.Mem.tail _ ?_)) (by first | rfl | assumption) rfl rfl (by first | rfl | assumption)) rfl ?_ | refine OW.rv (RV.load_at rfl rfl rfl (by repeat (first | assumption | refine Mem.Says.cons ?_))) rfl ?_)
  refine OW.rv (RV.assign rfl) rfl ?_
  refine OW.nil ?_
  (repeat (first | refine CW.seq ?_ | refine QW.then_n ?_ | refine CW.block ?_ | refine CW.ret ?_ | refine CW.skip ?_ | refine CW.exit ?_ | refine QW.then_x ?_ | refine QW.then_r ?_ | refine QW.block_n ?_ | refine QW.block_xe ?_ | refine QW.block_xn rfl ?_ | refine QW.block_r ?_))
  (repeat (first | refine CW.seq ?_ | refine QW.then_n ?_ | refine CW.block ?_ | refine CW.ret ?_ | refine CW.skip ?_ | refine CW.exit ?_ | refine QW.then_x ?_ | refine QW.then_r ?_ | refine QW.block_n ?_ | refine QW.block_xe ?_ | refine QW.block_xn rfl ?_ | refine QW.block_r ?_))
  refine CW.region ?_
  refine OW.rv (RV.assign rfl) rfl ?_
  refine OW.nil ?_
  (repeat (first | refine CW.seq ?_ | refine QW.then_n ?_ | refine CW.block ?_ | refine CW.ret ?_ | refine CW.skip ?_ | refine CW.exit ?_ | refine QW.then_x ?_ | refine QW.then_r ?_ | refine QW.block_n ?_ | refine QW.block_xe ?_ | refine QW.block_xn rfl ?_ | refine QW.block_r ?_))
  refine CW.loop (σ := Nat × Nat × List Value × Nat) (fun s => s.1 ≤ 70 ∧ (0 < s.1 → (u8s ((List.replicate n2 (BitVec.ofInt 8 (2 % 125))) ++ List.replicate s.1 (BitVec.ofInt 8 (125 + 2 % 125))) ++ s.2.2.1).length = s.2.2.2))
    (fun s => [(0, sl (some bl) 0 3 3), (5, sl om1 0 2 cm1), (6, .int .i64 2), (8, .int .i64 (s.1 : Int)), (7, match s.1 with | 0 => sl o2 0 n2 n2 | k + 1 => sl (some s.2.1) 0 (n2 + (k + 1)) s.2.2.2)])
    (fun s => match s.1 with | 0 => (om1, blk ([] ++ [sl (some c0) 0 (n0 + 70) cap0] ++ [sl (some c1) 0 (n1 + 70) cap1] ++ rm1) 22) :: (some c1, blk (u8s ((List.replicate n1 (BitVec.ofInt 8 (1 % 125))) ++ List.replicate 70 (BitVec.ofInt 8 (125 + 1 % 125))) ++ q1) 5) :: (some c0, blk (u8s ((List.replicate n0 (BitVec.ofInt 8 (0 % 125))) ++ List.replicate 70 (BitVec.ofInt 8 (125 + 0 % 125))) ++ q0) 5) :: (o2, blk (u8s (List.replicate n2 (BitVec.ofInt 8 (2 % 125)))) 5) :: (o1, blk (u8s (List.replicate n1 (BitVec.ofInt 8 (1 % 125)))) 5) :: (o0, blk (u8s (List.replicate n0 (BitVec.ofInt 8 (0 % 125)))) 5) :: (some bl, blk [sl o0 0 n0 n0, sl o1 0 n1 n1, sl o2 0 n2 n2] 22) :: M | k + 1 => (some s.2.1, blk (u8s ((List.replicate n2 (BitVec.ofInt 8 (2 % 125))) ++ List.replicate (k + 1) (BitVec.ofInt 8 (125 + 2 % 125))) ++ s.2.2.1) 5) :: (om1, blk ([] ++ [sl (some c0) 0 (n0 + 70) cap0] ++ [sl (some c1) 0 (n1 + 70) cap1] ++ rm1) 22) :: (some c1, blk (u8s ((List.replicate n1 (BitVec.ofInt 8 (1 % 125))) ++ List.replicate 70 (BitVec.ofInt 8 (125 + 1 % 125))) ++ q1) 5) :: (some c0, blk (u8s ((List.replicate n0 (BitVec.ofInt 8 (0 % 125))) ++ List.replicate 70 (BitVec.ofInt 8 (125 + 0 % 125))) ++ q0) 5) :: (o2, blk (u8s (List.replicate n2 (BitVec.ofInt 8 (2 % 125)))) 5) :: (o1, blk (u8s (List.replicate n1 (BitVec.ofInt 8 (1 % 125)))) 5) :: (o0, blk (u8s (List.replicate n0 (BitVec.ofInt 8 (0 % 125)))) 5) :: (some bl, blk [sl o0 0 n0 n0, sl o1 0 n1 n1, sl o2 0 n2 n2] 22) :: M) (fun s => 70 - s.1) (0, 0, [], 0)
    ⟨by show 0 ≤ 70; omega, fun h => absurd h (by decide)⟩ ⟨rfl, rfl, rfl, rfl, rfl, trivial⟩ (fun _ m => m) ?_
  rintro ⟨k, c, r, cap⟩ ⟨hk, hr⟩
  dsimp only at hk hr ⊢
  (repeat (first | refine CW.seq ?_ | refine QW.then_n ?_ | refine CW.block ?_ | refine CW.ret ?_ | refine CW.skip ?_ | refine CW.exit ?_ | refine QW.then_x ?_ | refine QW.then_r ?_ | refine QW.block_n ?_ | refine QW.block_xe ?_ | refine QW.block_xn rfl ?_ | refine QW.block_r ?_))
  refine CW.region ?_
  refine OW.rv (RV.move rfl) rfl ?_
  refine OW.rv (RV.lss rfl rfl) rfl ?_
  refine OW.nil ?_
  (repeat (first | refine CW.seq ?_ | refine QW.then_n ?_ | refine CW.block ?_ | refine CW.ret ?_ | refine CW.skip ?_ | refine CW.exit ?_ | refine QW.then_x ?_ | refine QW.then_r ?_ | refine QW.block_n ?_ | refine QW.block_xe ?_ | refine QW.block_xn rfl ?_ | refine QW.block_r ?_))
  (first | refine CW.cond_t rfl ?_ | refine CW.cond_f rfl ?_ | refine CW.cond_p rfl (fun hlt => ?_) (fun hlt => ?_) | refine CW.cond_np rfl (fun hlt => ?_) (fun hlt => ?_) | refine CW.cond rfl (fun hlt => ?_) (fun hlt => ?_))
  · rcases k with _ | k
    · have hA : Mem.Says w0 ((om1, blk ([] ++ [sl (some c0) 0 (n0 + 70) cap0] ++ [sl (some c1) 0 (n1 + 70) cap1] ++ rm1) 22) :: (some c1, blk (u8s ((List.replicate n1 (BitVec.ofInt 8 (1 % 125))) ++ List.replicate 70 (BitVec.ofInt 8 (125 + 1 % 125))) ++ q1) 5) :: (some c0, blk (u8s ((List.replicate n0 (BitVec.ofInt 8 (0 % 125))) ++ List.replicate 70 (BitVec.ofInt 8 (125 + 0 % 125))) ++ q0) 5) :: (o2, blk (u8s (List.replicate n2 (BitVec.ofInt 8 (2 % 125)))) 5) :: (o1, blk (u8s (List.replicate n1 (BitVec.ofInt 8 (1 % 125)))) 5) :: (o0, blk (u8s (List.replicate n0 (BitVec.ofInt 8 (0 % 125)))) 5) :: (some bl, blk [sl o0 0 n0 n0, sl o1 0 n1 n1, sl o2 0 n2 n2] 22) :: M) (fun w => Rd w (o2.map fun k => ⟨k, 0, none⟩) (u8s (List.replicate n2 (BitVec.ofInt 8 (2 % 125))))) := fun w m => m.rdl (t := 5) (by repeat (first | exact List.Mem.head _ | refine List.Mem.tail _ ?_)) (fun h => by rw [hn2 h]; rfl)
      have hAn : (o2.map fun k => (⟨k, 0, none⟩ : Addr)) = none → n2 = 0 := fun h => hn2 (by simpa using h)
      have e0 : u8s ((List.replicate n2 (BitVec.ofInt 8 (2 % 125))) ++ List.replicate 1 (BitVec.ofInt 8 (125 + 2 % 125))) = u8s (List.replicate n2 (BitVec.ofInt 8 (2 % 125))) ++ [U8 (BitVec.ofInt 8 (125 + 2 % 125))] := by rw [← u8s_app]; rfl
      (repeat (first | refine CW.seq ?_ | refine QW.then_n ?_ | refine CW.block ?_ | refine CW.ret ?_ | refine CW.skip ?_ | refine CW.exit ?_ | refine QW.then_x ?_ | refine QW.then_r ?_ | refine QW.block_n ?_ | refine QW.block_xe ?_ | refine QW.block_xn rfl ?_ | refine QW.block_r ?_))
      refine CW.region ?_
      refine OW.rv (RV.move rfl) rfl ?_
      refine OW.rv (RV.move rfl) rfl ?_
      (first | refine OW.rv (RV.rem rfl rfl (by omega) (by omega)) rfl ?_ | refine OW.rv (RV.trem rfl rfl (by omega)) rfl ?_)
      refine OW.rv (RV.add rfl rfl (by omega)) rfl ?_
      refine OW.rv (RV.conv_i8 rfl rfl rfl) rfl ?_
      refine OW.pushG (l := u8s (List.replicate n2 (BitVec.ofInt 8 (2 % 125)))) rfl rfl rfl rfl rfl rfl rfl rfl (by first | assumption | rfl | simp | omega) (by repeat (first | assumption | refine Mem.Says.cons ?_)) (by first | assumption | exact (fun h => nomatch h)) (by omega) (by omega) (by simp only [i5]; omega) rfl rfl (fun b56 c56 r56 cap56 hr56 => ?_)
      refine OW.rv (RV.assign rfl) rfl ?_
      refine OW.nil ?_
      (repeat (first | refine CW.seq ?_ | refine QW.then_n ?_ | refine CW.block ?_ | refine CW.ret ?_ | refine CW.skip ?_ | refine CW.exit ?_ | refine QW.then_x ?_ | refine QW.then_r ?_ | refine QW.block_n ?_ | refine QW.block_xe ?_ | refine QW.block_xn rfl ?_ | refine QW.block_r ?_))
      (repeat (first | refine CW.seq ?_ | refine QW.then_n ?_ | refine CW.block ?_ | refine CW.ret ?_ | refine CW.skip ?_ | refine CW.exit ?_ | refine QW.then_x ?_ | refine QW.then_r ?_ | refine QW.block_n ?_ | refine QW.block_xe ?_ | refine QW.block_xn rfl ?_ | refine QW.block_r ?_))
      refine CW.region ?_
      refine OW.rv (RV.move rfl) rfl ?_
      refine OW.rv (RV.add rfl rfl (by omega)) rfl ?_
      refine OW.rv (RV.assign rfl) rfl ?_
      refine OW.nil ?_
      (repeat (first | refine CW.seq ?_ | refine QW.then_n ?_ | refine CW.block ?_ | refine CW.ret ?_ | refine CW.skip ?_ | refine CW.exit ?_ | refine QW.then_x ?_ | refine QW.then_r ?_ | refine QW.block_n ?_ | refine QW.block_xe ?_ | refine QW.block_xn rfl ?_ | refine QW.block_r ?_))
      refine QW.again (1, c56, r56, cap56) ⟨by show 1 ≤ 70; omega, fun _ => ?_⟩ (by show 70 - 1 < 70 - 0; omega) ⟨rfl, rfl, rfl, rfl, rfl, trivial⟩ (fun _ m => ?_)
      · rw [← hr56, ← e0]
      · rw [← e0] at m; exact m
    · have h5 : (u8s ((List.replicate n2 (BitVec.ofInt 8 (2 % 125))) ++ List.replicate (k + 1) (BitVec.ofInt 8 (125 + 2 % 125)))).length = n2 + (k + 1) := by simp
      have hr' := hr (by omega)
      (repeat (first | refine CW.seq ?_ | refine QW.then_n ?_ | refine CW.block ?_ | refine CW.ret ?_ | refine CW.skip ?_ | refine CW.exit ?_ | refine QW.then_x ?_ | refine QW.then_r ?_ | refine QW.block_n ?_ | refine QW.block_xe ?_ | refine QW.block_xn rfl ?_ | refine QW.block_r ?_))
      refine CW.region ?_
      refine OW.rv (RV.move rfl) rfl ?_
      refine OW.rv (RV.move rfl) rfl ?_
      (first | refine OW.rv (RV.rem rfl rfl (by omega) (by omega)) rfl ?_ | refine OW.rv (RV.trem rfl rfl (by omega)) rfl ?_)
      refine OW.rv (RV.add rfl rfl (by omega)) rfl ?_
      refine OW.rv (RV.conv_i8 rfl rfl rfl) rfl ?_
      (first | refine OW.push rfl rfl rfl rfl rfl rfl rfl rfl (by first | assumption | rfl | simp | omega) (by first | assumption | rfl | (simp; done)) (by first | assumption | exact (fun _ => rfl) | exact (fun h => nomatch h)) (by omega) (by simp only [i5]; omega) rfl rfl (fun b56 ob56 r56 cap56 hr56 hn56 => ?_) | (refine OW.rot1 ?_; refine OW.push rfl rfl rfl rfl rfl rfl rfl rfl (by first | assumption | rfl | simp | omega) (by first | assumption | rfl | (simp; done)) (by first | assumption | exact (fun _ => rfl) | exact (fun h => nomatch h)) (by omega) (by simp only [i5]; omega) rfl rfl (fun b56 ob56 r56 cap56 hr56 hn56 => ?_)) | (refine OW.rot2 ?_; refine OW.push rfl rfl rfl rfl rfl rfl rfl rfl (by first | assumption | rfl | simp | omega) (by first | assumption | rfl | (simp; done)) (by first | assumption | exact (fun _ => rfl) | exact (fun h => nomatch h)) (by omega) (by simp only [i5]; omega) rfl rfl (fun b56 ob56 r56 cap56 hr56 hn56 => ?_)) | (refine OW.rot3 ?_; refine OW.push rfl rfl rfl rfl rfl rfl rfl rfl (by first | assumption | rfl | simp | omega) (by first | assumption | rfl | (simp; done)) (by first | assumption | exact (fun _ => rfl) | exact (fun h => nomatch h)) (by omega) (by simp only [i5]; omega) rfl rfl (fun b56 ob56 r56 cap56 hr56 hn56 => ?_)))
      refine OW.rv (RV.assign rfl) rfl ?_
      refine OW.nil ?_
      (repeat (first | refine CW.seq ?_ | refine QW.then_n ?_ | refine CW.block ?_ | refine CW.ret ?_ | refine CW.skip ?_ | refine CW.exit ?_ | refine QW.then_x ?_ | refine QW.then_r ?_ | refine QW.block_n ?_ | refine QW.block_xe ?_ | refine QW.block_xn rfl ?_ | refine QW.block_r ?_))
      (repeat (first | refine CW.seq ?_ | refine QW.then_n ?_ | refine CW.block ?_ | refine CW.ret ?_ | refine CW.skip ?_ | refine CW.exit ?_ | refine QW.then_x ?_ | refine QW.then_r ?_ | refine QW.block_n ?_ | refine QW.block_xe ?_ | refine QW.block_xn rfl ?_ | refine QW.block_r ?_))
      refine CW.region ?_
      refine OW.rv (RV.move rfl) rfl ?_
      refine OW.rv (RV.add rfl rfl (by omega)) rfl ?_
      refine OW.rv (RV.assign rfl) rfl ?_
      refine OW.nil ?_
      (repeat (first | refine CW.seq ?_ | refine QW.then_n ?_ | refine CW.block ?_ | refine CW.ret ?_ | refine CW.skip ?_ | refine CW.exit ?_ | refine QW.then_x ?_ | refine QW.then_r ?_ | refine QW.block_n ?_ | refine QW.block_xe ?_ | refine QW.block_xn rfl ?_ | refine QW.block_r ?_))
      have e1 : u8s ((List.replicate n2 (BitVec.ofInt 8 (2 % 125))) ++ List.replicate (k + 1) (BitVec.ofInt 8 (125 + 2 % 125))) ++ [U8 (BitVec.ofInt 8 (125 + 2 % 125))] = u8s ((List.replicate n2 (BitVec.ofInt 8 (2 % 125))) ++ List.replicate (k + 1 + 1) (BitVec.ofInt 8 (125 + 2 % 125))) := by
        rw [List.replicate_succ' (n := k + 1), ← List.append_assoc, ← u8s_app _ [_]]; rfl
      rw [e1] at hr56
      cases ob56 with
      | none => have := hn56 rfl; rw [this] at hr56; simp at hr56
      | some c56 =>
        refine QW.again (k + 1 + 1, c56, r56, cap56) ⟨by show k + 1 + 1 ≤ 70; omega, fun _ => hr56⟩ (by show 70 - (k + 1 + 1) < 70 - (k + 1); omega) ⟨rfl, rfl, rfl, rfl, rfl, trivial⟩ (fun _ m => ?_)
        rw [e1] at m
        exact m
  obtain rfl : k = 70 := by omega
  have hr2 := hr (by omega)
  obtain ⟨c2, hcc⟩ : ∃ n, n = c := ⟨_, rfl⟩
  subst hcc
  obtain ⟨q2, hcc⟩ : ∃ n, n = r := ⟨_, rfl⟩
  subst hcc
  obtain ⟨cap2, hcc⟩ : ∃ n, n = cap := ⟨_, rfl⟩
  subst hcc
  clear hr hk hlt
  (repeat (first | refine CW.seq ?_ | refine QW.then_n ?_ | refine CW.block ?_ | refine CW.ret ?_ | refine CW.skip ?_ | refine CW.exit ?_ | refine QW.then_x ?_ | refine QW.then_r ?_ | refine QW.block_n ?_ | refine QW.block_xe ?_ | refine QW.block_xn rfl ?_ | refine QW.block_r ?_))
  refine CW.state (L' := [(0, sl (some bl) 0 3 3), (5, sl om1 0 2 cm1), (6, .int .i64 2), (7, sl (some c2) 0 (n2 + 70) cap2)]) (M' := (om1, blk ([] ++ [sl (some c0) 0 (n0 + 70) cap0] ++ [sl (some c1) 0 (n1 + 70) cap1] ++ rm1) 22) :: (some c2, blk (u8s ((List.replicate n2 (BitVec.ofInt 8 (2 % 125))) ++ List.replicate 70 (BitVec.ofInt 8 (125 + 2 % 125))) ++ q2) 5) :: (some c1, blk (u8s ((List.replicate n1 (BitVec.ofInt 8 (1 % 125))) ++ List.replicate 70 (BitVec.ofInt 8 (125 + 1 % 125))) ++ q1) 5) :: (some c0, blk (u8s ((List.replicate n0 (BitVec.ofInt 8 (0 % 125))) ++ List.replicate 70 (BitVec.ofInt 8 (125 + 0 % 125))) ++ q0) 5) :: (o2, blk (u8s (List.replicate n2 (BitVec.ofInt 8 (2 % 125)))) 5) :: (o1, blk (u8s (List.replicate n1 (BitVec.ofInt 8 (1 % 125)))) 5) :: (o0, blk (u8s (List.replicate n0 (BitVec.ofInt 8 (0 % 125)))) 5) :: (some bl, blk [sl o0 0 n0 n0, sl o1 0 n1 n1, sl o2 0 n2 n2] 22) :: M) ⟨rfl, rfl, rfl, rfl, trivial⟩ (fun _ m => m.rot1) ?_
  (repeat (first | refine CW.seq ?_ | refine QW.then_n ?_ | refine CW.block ?_ | refine CW.ret ?_ | refine CW.skip ?_ | refine CW.exit ?_ | refine QW.then_x ?_ | refine QW.then_r ?_ | refine QW.block_n ?_ | refine QW.block_xe ?_ | refine QW.block_xn rfl ?_ | refine QW.block_r ?_))
  refine CW.region ?_
  refine OW.rv (RV.move rfl) rfl ?_
  refine OW.rv (RV.move rfl) rfl ?_
  (first | refine OW.push rfl rfl rfl rfl rfl rfl rfl rfl (by first | assumption | rfl | simp | omega) (by first | assumption | rfl | (simp; done)) (by first | assumption | exact (fun _ => rfl) | exact (fun h => nomatch h)) (by omega) (by simp only [i22]; omega) rfl rfl (fun b60 ob60 r60 cap60 hr60 hn60 => ?_) | (refine OW.rot1 ?_; refine OW.push rfl rfl rfl rfl rfl rfl rfl rfl (by first | assumption | rfl | simp | omega) (by first | assumption | rfl | (simp; done)) (by first | assumption | exact (fun _ => rfl) | exact (fun h => nomatch h)) (by omega) (by simp only [i22]; omega) rfl rfl (fun b60 ob60 r60 cap60 hr60 hn60 => ?_)) | (refine OW.rot2 ?_; refine OW.push rfl rfl rfl rfl rfl rfl rfl rfl (by first | assumption | rfl | simp | omega) (by first | assumption | rfl | (simp; done)) (by first | assumption | exact (fun _ => rfl) | exact (fun h => nomatch h)) (by omega) (by simp only [i22]; omega) rfl rfl (fun b60 ob60 r60 cap60 hr60 hn60 => ?_)) | (refine OW.rot3 ?_; refine OW.push rfl rfl rfl rfl rfl rfl rfl rfl (by first | assumption | rfl | simp | omega) (by first | assumption | rfl | (simp; done)) (by first | assumption | exact (fun _ => rfl) | exact (fun h => nomatch h)) (by omega) (by simp only [i22]; omega) rfl rfl (fun b60 ob60 r60 cap60 hr60 hn60 => ?_)))
  refine OW.rv (RV.assign rfl) rfl ?_
  refine OW.nil ?_
  (repeat (first | refine CW.seq ?_ | refine QW.then_n ?_ | refine CW.block ?_ | refine CW.ret ?_ | refine CW.skip ?_ | refine CW.exit ?_ | refine QW.then_x ?_ | refine QW.then_r ?_ | refine QW.block_n ?_ | refine QW.block_xe ?_ | refine QW.block_xn rfl ?_ | refine QW.block_r ?_))
  (repeat (first | refine CW.seq ?_ | refine QW.then_n ?_ | refine CW.block ?_ | refine CW.ret ?_ | refine CW.skip ?_ | refine CW.exit ?_ | refine QW.then_x ?_ | refine QW.then_r ?_ | refine QW.block_n ?_ | refine QW.block_xe ?_ | refine QW.block_xn rfl ?_ | refine QW.block_r ?_))
  refine CW.region ?_
  refine OW.rv (RV.move rfl) rfl ?_
  refine OW.rv (RV.add rfl rfl (by omega)) rfl ?_
  refine OW.rv (RV.assign rfl) rfl ?_
  refine OW.nil ?_
  (repeat (first | refine CW.seq ?_ | refine QW.then_n ?_ | refine CW.block ?_ | refine CW.ret ?_ | refine CW.skip ?_ | refine CW.exit ?_ | refine QW.then_x ?_ | refine QW.then_r ?_ | refine QW.block_n ?_ | refine QW.block_xe ?_ | refine QW.block_xn rfl ?_ | refine QW.block_r ?_))
  refine QW.then_k ?_
  obtain ⟨om2, hcc⟩ : ∃ n, n = ob60 := ⟨_, rfl⟩
  subst hcc
  obtain ⟨rm2, hcc⟩ : ∃ n, n = r60 := ⟨_, rfl⟩
  subst hcc
  obtain ⟨cm2, hcc⟩ : ∃ n, n = cap60 := ⟨_, rfl⟩
  subst hcc
  have hm2 := hr60
  have hmn2 := hn60
  clear hr60 hn60
  refine RW.state (L' := [(0, sl (some bl) 0 3 3), (5, sl om2 0 3 cm2), (6, .int .i64 3)]) ⟨rfl, rfl, rfl, trivial⟩ (fun _ m => m) ?_
  refine RW.succ ?_
  (repeat (first | refine CW.seq ?_ | refine QW.then_n ?_ | refine CW.block ?_ | refine CW.ret ?_ | refine CW.skip ?_ | refine CW.exit ?_ | refine QW.then_x ?_ | refine QW.then_r ?_ | refine QW.block_n ?_ | refine QW.block_xe ?_ | refine QW.block_xn rfl ?_ | refine QW.block_r ?_))
  refine CW.region ?_
  refine OW.rv (RV.move rfl) rfl ?_
  refine OW.rv (RV.move rfl) rfl ?_
  refine OW.rv (RV.len rfl rfl) rfl ?_
  (first | refine OW.rv (RV.lss_t rfl rfl (by omega)) rfl ?_ | refine OW.rv (RV.lss_f rfl rfl (by omega)) rfl ?_ | refine OW.rv (RV.lss rfl rfl) rfl ?_)
  refine OW.nil ?_
  (repeat (first | refine CW.seq ?_ | refine QW.then_n ?_ | refine CW.block ?_ | refine CW.ret ?_ | refine CW.skip ?_ | refine CW.exit ?_ | refine QW.then_x ?_ | refine QW.then_r ?_ | refine QW.block_n ?_ | refine QW.block_xe ?_ | refine QW.block_xn rfl ?_ | refine QW.block_r ?_))
  (first | refine CW.cond_t rfl ?_ | refine CW.cond_f rfl ?_ | refine CW.cond_p rfl (fun h => ?_) (fun h => ?_) | refine CW.cond_np rfl (fun h => ?_) (fun h => ?_) | refine CW.cond rfl (fun h => ?_) (fun h => ?_))
  have hom : om2.isSome = true := by
    cases om2 with
    | none => have := hmn2 rfl; rw [this] at hm2; simp at hm2
    | some b => rfl
  (repeat (first | refine CW.seq ?_ | refine QW.then_n ?_ | refine CW.block ?_ | refine CW.ret ?_ | refine CW.skip ?_ | refine CW.exit ?_ | refine QW.then_x ?_ | refine QW.then_r ?_ | refine QW.block_n ?_ | refine QW.block_xe ?_ | refine QW.block_xn rfl ?_ | refine QW.block_r ?_))
  refine CW.region ?_
  refine OW.rv (RV.assign rfl) rfl ?_
  refine OW.nil ?_
  (repeat (first | refine CW.seq ?_ | refine QW.then_n ?_ | refine CW.block ?_ | refine CW.ret ?_ | refine CW.skip ?_ | refine CW.exit ?_ | refine QW.then_x ?_ | refine QW.then_r ?_ | refine QW.block_n ?_ | refine QW.block_xe ?_ | refine QW.block_xn rfl ?_ | refine QW.block_r ?_))
  refine CW.loopN 4 ?_
  refine RW.state (L' := [(0, sl (some bl) 0 3 3), (5, sl om2 0 3 cm2), (9, .int .i64 0)]) ⟨rfl, rfl, rfl, trivial⟩ (fun _ m => m) ?_
  refine RW.succ ?_
  (repeat (first | refine CW.seq ?_ | refine QW.then_n ?_ | refine CW.block ?_ | refine CW.ret ?_ | refine CW.skip ?_ | refine CW.exit ?_ | refine QW.then_x ?_ | refine QW.then_r ?_ | refine QW.block_n ?_ | refine QW.block_xe ?_ | refine QW.block_xn rfl ?_ | refine QW.block_r ?_))
  refine CW.region ?_
  refine OW.rv (RV.move rfl) rfl ?_
  refine OW.rv (RV.move rfl) rfl ?_
  refine OW.rv (RV.len rfl rfl) rfl ?_
  (first | refine OW.rv (RV.lss_t rfl rfl (by omega)) rfl ?_ | refine OW.rv (RV.lss_f rfl rfl (by omega)) rfl ?_ | refine OW.rv (RV.lss rfl rfl) rfl ?_)
  refine OW.nil ?_
  (repeat (first | refine CW.seq ?_ | refine QW.then_n ?_ | refine CW.block ?_ | refine CW.ret ?_ | refine CW.skip ?_ | refine CW.exit ?_ | refine QW.then_x ?_ | refine QW.then_r ?_ | refine QW.block_n ?_ | refine QW.block_xe ?_ | refine QW.block_xn rfl ?_ | refine QW.block_r ?_))
  (first | refine CW.cond_t rfl ?_ | refine CW.cond_f rfl ?_ | refine CW.cond_p rfl (fun h => ?_) (fun h => ?_) | refine CW.cond_np rfl (fun h => ?_) (fun h => ?_) | refine CW.cond rfl (fun h => ?_) (fun h => ?_))
  (repeat (first | refine CW.seq ?_ | refine QW.then_n ?_ | refine CW.block ?_ | refine CW.ret ?_ | refine CW.skip ?_ | refine CW.exit ?_ | refine QW.then_x ?_ | refine QW.then_r ?_ | refine QW.block_n ?_ | refine QW.block_xe ?_ | refine QW.block_xn rfl ?_ | refine QW.block_r ?_))
  refine CW.region ?_
  refine OW.rv (RV.move rfl) rfl ?_
  refine OW.rv (RV.move rfl) rfl ?_
  (first | refine OW.rv (RV.idx_o _ rfl rfl rfl rfl rfl (by first | rfl | assumption) (by omega)) rfl ?_ | refine OW.rv (RV.idx_r _ rfl rfl rfl rfl rfl (by first | rfl | assumption) (by omega)) rfl ?_ | refine OW.rv (RV.idx_oz rfl rfl (by omega) rfl rfl (by first | rfl | assumption) (by omega)) rfl ?_ | refine OW.rv (RV.idx_rz rfl rfl (by omega) rfl rfl (by first | rfl | assumption) (by omega)) rfl ?_)
  (first | refine OW.rv (RV.load rfl (by repeat (first | exact List.Mem.head _ | refine List.Mem.tail _ ?_)) (by first | rfl | assumption) rfl rfl (by first | rfl | assumption)) rfl ?_ | refine OW.rv (RV.load_at rfl rfl rfl (by repeat (first | assumption | refine Mem.Says.cons ?_))) rfl ?_)
  refine OW.rv (RV.len rfl rfl) rfl ?_
  refine OW.rv (RV.assign rfl) rfl ?_
  refine OW.nil ?_
  (repeat (first | refine CW.seq ?_ | refine QW.then_n ?_ | refine CW.block ?_ | refine CW.ret ?_ | refine CW.skip ?_ | refine CW.exit ?_ | refine QW.then_x ?_ | refine QW.then_r ?_ | refine QW.block_n ?_ | refine QW.block_xe ?_ | refine QW.block_xn rfl ?_ | refine QW.block_r ?_))
  (repeat (first | refine CW.seq ?_ | refine QW.then_n ?_ | refine CW.block ?_ | refine CW.ret ?_ | refine CW.skip ?_ | refine CW.exit ?_ | refine QW.then_x ?_ | refine QW.then_r ?_ | refine QW.block_n ?_ | refine QW.block_xe ?_ | refine QW.block_xn rfl ?_ | refine QW.block_r ?_))
  refine CW.region ?_
  refine OW.rv (RV.assign rfl) rfl ?_
  refine OW.nil ?_
  (repeat (first | refine CW.seq ?_ | refine QW.then_n ?_ | refine CW.block ?_ | refine CW.ret ?_ | refine CW.skip ?_ | refine CW.exit ?_ | refine QW.then_x ?_ | refine QW.then_r ?_ | refine QW.block_n ?_ | refine QW.block_xe ?_ | refine QW.block_xn rfl ?_ | refine QW.block_r ?_))
  refine CW.loop (σ := Nat) (fun k => k ≤ n0 + 70) (fun k => [(0, sl (some bl) 0 3 3), (5, sl om2 0 3 cm2), (9, .int .i64 0), (10, .int .i64 (n0 : Int)), (11, .int .i64 (k : Int))]) (fun k => (om2, blk ([] ++ [sl (some c0) 0 (n0 + 70) cap0] ++ [sl (some c1) 0 (n1 + 70) cap1] ++ [sl (some c2) 0 (n2 + 70) cap2] ++ rm2) 22) :: (some c2, blk (u8s ((List.replicate n2 (BitVec.ofInt 8 (2 % 125))) ++ List.replicate 70 (BitVec.ofInt 8 (125 + 2 % 125))) ++ q2) 5) :: (some c1, blk (u8s ((List.replicate n1 (BitVec.ofInt 8 (1 % 125))) ++ List.replicate 70 (BitVec.ofInt 8 (125 + 1 % 125))) ++ q1) 5) :: (some c0, blk (u8s ((List.replicate n0 (BitVec.ofInt 8 (0 % 125))) ++ List.replicate 70 (BitVec.ofInt 8 (125 + 0 % 125))) ++ q0) 5) :: (o2, blk (u8s (List.replicate n2 (BitVec.ofInt 8 (2 % 125)))) 5) :: (o1, blk (u8s (List.replicate n1 (BitVec.ofInt 8 (1 % 125)))) 5) :: (o0, blk (u8s (List.replicate n0 (BitVec.ofInt 8 (0 % 125)))) 5) :: (some bl, blk [sl o0 0 n0 n0, sl o1 0 n1 n1, sl o2 0 n2 n2] 22) :: M) (fun k => n0 + 70 - k) 0 (by omega) ⟨rfl, rfl, rfl, rfl, rfl, trivial⟩ (fun _ m => m) ?_
  intro k hk
  (repeat (first | refine CW.seq ?_ | refine QW.then_n ?_ | refine CW.block ?_ | refine CW.ret ?_ | refine CW.skip ?_ | refine CW.exit ?_ | refine QW.then_x ?_ | refine QW.then_r ?_ | refine QW.block_n ?_ | refine QW.block_xe ?_ | refine QW.block_xn rfl ?_ | refine QW.block_r ?_))
  refine CW.region ?_
  refine OW.rv (RV.move rfl) rfl ?_
  refine OW.rv (RV.move rfl) rfl ?_
  refine OW.rv (RV.move rfl) rfl ?_
  (first | refine OW.rv (RV.idx_o _ rfl rfl rfl rfl rfl (by first | rfl | assumption) (by omega)) rfl ?_ | refine OW.rv (RV.idx_r _ rfl rfl rfl rfl rfl (by first | rfl | assumption) (by omega)) rfl ?_ | refine OW.rv (RV.idx_oz rfl rfl (by omega) rfl rfl (by first | rfl | assumption) (by omega)) rfl ?_ | refine OW.rv (RV.idx_rz rfl rfl (by omega) rfl rfl (by first | rfl | assumption) (by omega)) rfl ?_)
  (first | refine OW.rv (RV.load rfl (by repeat (first | exact List.Mem.head _ | refine List.Mem.tail _ ?_)) (by first | rfl | assumption) rfl rfl (by first | rfl | assumption)) rfl ?_ | refine OW.rv (RV.load_at rfl rfl rfl (by repeat (first | assumption | refine Mem.Says.cons ?_))) rfl ?_)
  refine OW.rv (RV.len rfl rfl) rfl ?_
  refine OW.rv (RV.lss rfl rfl) rfl ?_
  refine OW.nil ?_
  (repeat (first | refine CW.seq ?_ | refine QW.then_n ?_ | refine CW.block ?_ | refine CW.ret ?_ | refine CW.skip ?_ | refine CW.exit ?_ | refine QW.then_x ?_ | refine QW.then_r ?_ | refine QW.block_n ?_ | refine QW.block_xe ?_ | refine QW.block_xn rfl ?_ | refine QW.block_r ?_))
  (first | refine CW.cond_t rfl ?_ | refine CW.cond_f rfl ?_ | refine CW.cond_p rfl (fun hlt => ?_) (fun hlt => ?_) | refine CW.cond_np rfl (fun hlt => ?_) (fun hlt => ?_) | refine CW.cond rfl (fun hlt => ?_) (fun hlt => ?_))
  · by_cases hkn : k < n0
    · have hs : o0.isSome = true := by
        cases o0 with
        | none => have := hn0 rfl; omega
        | some b => rfl
      have g1 : (u8s (List.replicate n0 (BitVec.ofInt 8 (0 % 125))))[0 + k]? = some (U8 (BitVec.ofInt 8 (0 % 125))) := by simp [u8s, hkn]
      have g2 : (u8s ((List.replicate n0 (BitVec.ofInt 8 (0 % 125))) ++ List.replicate 70 (BitVec.ofInt 8 (125 + 0 % 125))) ++ q0)[0 + k]? = some (U8 (BitVec.ofInt 8 (0 % 125))) := by
        rw [Nat.zero_add, List.getElem?_append_left (by simp; omega)]
        simp only [u8s, List.getElem?_map]
        rw [List.getElem?_append_left (by simpa using hkn)]
        simp [hkn]
      (repeat (first | refine CW.seq ?_ | refine QW.then_n ?_ | refine CW.block ?_ | refine CW.ret ?_ | refine CW.skip ?_ | refine CW.exit ?_ | refine QW.then_x ?_ | refine QW.then_r ?_ | refine QW.block_n ?_ | refine QW.block_xe ?_ | refine QW.block_xn rfl ?_ | refine QW.block_r ?_))
      refine CW.region ?_
      refine OW.rv (RV.move rfl) rfl ?_
      refine OW.rv (RV.move rfl) rfl ?_
      (first | refine OW.rv (RV.lss_t rfl rfl (by omega)) rfl ?_ | refine OW.rv (RV.lss_f rfl rfl (by omega)) rfl ?_ | refine OW.rv (RV.lss rfl rfl) rfl ?_)
      refine OW.rv (RV.move rfl) rfl ?_
      (first | (refine OW.want rfl ?_; refine OW.rv (RV.move rfl) rfl ?_) | refine OW.skip rfl rfl rfl ?_)
      (first | (refine OW.want rfl ?_; refine OW.rv (RV.move rfl) rfl ?_) | refine OW.skip rfl rfl rfl ?_)
      (first | (refine OW.want rfl ?_; (first | refine OW.rv (RV.idx_o _ rfl rfl rfl rfl rfl (by first | rfl | assumption) (by omega)) rfl ?_ | refine OW.rv (RV.idx_r _ rfl rfl rfl rfl rfl (by first | rfl | assumption) (by omega)) rfl ?_ | refine OW.rv (RV.idx_oz rfl rfl (by omega) rfl rfl (by first | rfl | assumption) (by omega)) rfl ?_ | refine OW.rv (RV.idx_rz rfl rfl (by omega) rfl rfl (by first | rfl | assumption) (by omega)) rfl ?_)) | refine OW.skip rfl rfl rfl ?_)
      (first | (refine OW.want rfl ?_; (first | refine OW.rv (RV.load rfl (by repeat (first | exact List.Mem.head _ | refine List.Mem.tail _ ?_)) (by first | rfl | assumption) rfl rfl (by first | rfl | assumption)) rfl ?_ | refine OW.rv (RV.load_at rfl rfl rfl (by repeat (first | assumption | refine Mem.Says.cons ?_))) rfl ?_)) | refine OW.skip rfl rfl rfl ?_)
      (first | (refine OW.want rfl ?_; refine OW.rv (RV.move rfl) rfl ?_) | refine OW.skip rfl rfl rfl ?_)
      (first | (refine OW.want rfl ?_; (first | refine OW.rv (RV.idx_o _ rfl rfl rfl rfl rfl (by first | rfl | assumption) (by omega)) rfl ?_ | refine OW.rv (RV.idx_r _ rfl rfl rfl rfl rfl (by first | rfl | assumption) (by omega)) rfl ?_ | refine OW.rv (RV.idx_oz rfl rfl (by omega) rfl rfl (by first | rfl | assumption) (by omega)) rfl ?_ | refine OW.rv (RV.idx_rz rfl rfl (by omega) rfl rfl (by first | rfl | assumption) (by omega)) rfl ?_)) | refine OW.skip rfl rfl rfl ?_)
      (first | (refine OW.want rfl ?_; (first | refine OW.rv (RV.load rfl (by repeat (first | exact List.Mem.head _ | refine List.Mem.tail _ ?_)) (by first | rfl | assumption) rfl rfl (by first | rfl | assumption)) rfl ?_ | refine OW.rv (RV.load_at rfl rfl rfl (by repeat (first | assumption | refine Mem.Says.cons ?_))) rfl ?_)) | refine OW.skip rfl rfl rfl ?_)
      (first | (refine OW.want rfl ?_; refine OW.rv (RV.move rfl) rfl ?_) | refine OW.skip rfl rfl rfl ?_)
      (first | (refine OW.want rfl ?_; (first | refine OW.rv (RV.rem rfl rfl (by omega) (by omega)) rfl ?_ | refine OW.rv (RV.trem rfl rfl (by omega)) rfl ?_)) | refine OW.skip rfl rfl rfl ?_)
      (first | (refine OW.want rfl ?_; refine OW.rv (RV.conv_i8 rfl rfl rfl) rfl ?_) | refine OW.skip rfl rfl rfl ?_)
      (first | (refine OW.want rfl ?_; (first | refine OW.rv (RV.neq8_t rfl (by first | rfl | exact lit8 _ rfl) rfl (by first | rfl | exact lit8 _ rfl) (by first | rfl | assumption | decide)) rfl ?_ | refine OW.rv (RV.neq8_f rfl (by first | rfl | exact lit8 _ rfl) rfl (by first | rfl | exact lit8 _ rfl) (by first | rfl | assumption | decide)) rfl ?_ | refine OW.rv (RV.neq8 rfl (by first | rfl | exact lit8 _ rfl) rfl (by first | rfl | exact lit8 _ rfl)) rfl ?_)) | refine OW.skip rfl rfl rfl ?_)
      (first | (refine OW.want rfl ?_; refine OW.rv (RV.move rfl) rfl ?_) | refine OW.skip rfl rfl rfl ?_)
      (first | (refine OW.want rfl ?_; refine OW.rv (RV.move rfl) rfl ?_) | refine OW.skip rfl rfl rfl ?_)
      (first | (refine OW.want rfl ?_; refine OW.rv (RV.move rfl) rfl ?_) | refine OW.skip rfl rfl rfl ?_)
      (first | (refine OW.want rfl ?_; (first | refine OW.rv (RV.idx_o _ rfl rfl rfl rfl rfl (by first | rfl | assumption) (by omega)) rfl ?_ | refine OW.rv (RV.idx_r _ rfl rfl rfl rfl rfl (by first | rfl | assumption) (by omega)) rfl ?_ | refine OW.rv (RV.idx_oz rfl rfl (by omega) rfl rfl (by first | rfl | assumption) (by omega)) rfl ?_ | refine OW.rv (RV.idx_rz rfl rfl (by omega) rfl rfl (by first | rfl | assumption) (by omega)) rfl ?_)) | refine OW.skip rfl rfl rfl ?_)
      (first | (refine OW.want rfl ?_; (first | refine OW.rv (RV.load rfl (by repeat (first | exact List.Mem.head _ | refine List.Mem.tail _ ?_)) (by first | rfl | assumption) rfl rfl (by first | rfl | assumption)) rfl ?_ | refine OW.rv (RV.load_at rfl rfl rfl (by repeat (first | assumption | refine Mem.Says.cons ?_))) rfl ?_)) | refine OW.skip rfl rfl rfl ?_)
      (first | (refine OW.want rfl ?_; refine OW.rv (RV.move rfl) rfl ?_) | refine OW.skip rfl rfl rfl ?_)
      (first | (refine OW.want rfl ?_; (first | refine OW.rv (RV.idx_o _ rfl rfl rfl rfl rfl (by first | rfl | assumption) (by omega)) rfl ?_ | refine OW.rv (RV.idx_r _ rfl rfl rfl rfl rfl (by first | rfl | assumption) (by omega)) rfl ?_ | refine OW.rv (RV.idx_oz rfl rfl (by omega) rfl rfl (by first | rfl | assumption) (by omega)) rfl ?_ | refine OW.rv (RV.idx_rz rfl rfl (by omega) rfl rfl (by first | rfl | assumption) (by omega)) rfl ?_)) | refine OW.skip rfl rfl rfl ?_)
      (first | (refine OW.want rfl ?_; (first | refine OW.rv (RV.load rfl (by repeat (first | exact List.Mem.head _ | refine List.Mem.tail _ ?_)) (by first | rfl | assumption) rfl rfl (by first | rfl | assumption)) rfl ?_ | refine OW.rv (RV.load_at rfl rfl rfl (by repeat (first | assumption | refine Mem.Says.cons ?_))) rfl ?_)) | refine OW.skip rfl rfl rfl ?_)
      (first | (refine OW.want rfl ?_; refine OW.rv (RV.move rfl) rfl ?_) | refine OW.skip rfl rfl rfl ?_)
      (first | (refine OW.want rfl ?_; (first | refine OW.rv (RV.rem rfl rfl (by omega) (by omega)) rfl ?_ | refine OW.rv (RV.trem rfl rfl (by omega)) rfl ?_)) | refine OW.skip rfl rfl rfl ?_)
      (first | (refine OW.want rfl ?_; refine OW.rv (RV.conv_i8 rfl rfl rfl) rfl ?_) | refine OW.skip rfl rfl rfl ?_)
      (first | (refine OW.want rfl ?_; (first | refine OW.rv (RV.neq8_t rfl (by first | rfl | exact lit8 _ rfl) rfl (by first | rfl | exact lit8 _ rfl) (by first | rfl | assumption | decide)) rfl ?_ | refine OW.rv (RV.neq8_f rfl (by first | rfl | exact lit8 _ rfl) rfl (by first | rfl | exact lit8 _ rfl) (by first | rfl | assumption | decide)) rfl ?_ | refine OW.rv (RV.neq8 rfl (by first | rfl | exact lit8 _ rfl) rfl (by first | rfl | exact lit8 _ rfl)) rfl ?_)) | refine OW.skip rfl rfl rfl ?_)
      (first | (refine OW.want rfl ?_; (first | refine OW.rv (RV.pick_t rfl rfl rfl) rfl ?_ | refine OW.rv (RV.pick_f rfl rfl rfl) rfl ?_ | refine OW.rv (RV.pick rfl rfl rfl) rfl ?_)) | refine OW.skip rfl rfl rfl ?_)
      (first | refine OW.rv (RV.pick_t rfl rfl rfl) rfl ?_ | refine OW.rv (RV.pick_f rfl rfl rfl) rfl ?_ | refine OW.rv (RV.pick rfl rfl rfl) rfl ?_)
      refine OW.rv (RV.move rfl) rfl ?_
      (first | (refine OW.want rfl ?_; refine OW.rv (RV.move rfl) rfl ?_) | refine OW.skip rfl rfl rfl ?_)
      (first | (refine OW.want rfl ?_; refine OW.rv (RV.move rfl) rfl ?_) | refine OW.skip rfl rfl rfl ?_)
      (first | (refine OW.want rfl ?_; (first | refine OW.rv (RV.geq_t rfl rfl (by omega)) rfl ?_ | refine OW.rv (RV.geq_f rfl rfl (by omega)) rfl ?_ | refine OW.rv (RV.geq rfl rfl) rfl ?_)) | refine OW.skip rfl rfl rfl ?_)
      (first | (refine OW.want rfl ?_; refine OW.rv (RV.move rfl) rfl ?_) | refine OW.skip rfl rfl rfl ?_)
      (first | (refine OW.want rfl ?_; refine OW.rv (RV.move rfl) rfl ?_) | refine OW.skip rfl rfl rfl ?_)
      (first | (refine OW.want rfl ?_; refine OW.rv (RV.move rfl) rfl ?_) | refine OW.skip rfl rfl rfl ?_)
      (first | (refine OW.want rfl ?_; (first | refine OW.rv (RV.idx_o _ rfl rfl rfl rfl rfl (by first | rfl | assumption) (by omega)) rfl ?_ | refine OW.rv (RV.idx_r _ rfl rfl rfl rfl rfl (by first | rfl | assumption) (by omega)) rfl ?_ | refine OW.rv (RV.idx_oz rfl rfl (by omega) rfl rfl (by first | rfl | assumption) (by omega)) rfl ?_ | refine OW.rv (RV.idx_rz rfl rfl (by omega) rfl rfl (by first | rfl | assumption) (by omega)) rfl ?_)) | refine OW.skip rfl rfl rfl ?_)
      (first | (refine OW.want rfl ?_; (first | refine OW.rv (RV.load rfl (by repeat (first | exact List.Mem.head _ | refine List.Mem.tail _ ?_)) (by first | rfl | assumption) rfl rfl (by first | rfl | assumption)) rfl ?_ | refine OW.rv (RV.load_at rfl rfl rfl (by repeat (first | assumption | refine Mem.Says.cons ?_))) rfl ?_)) | refine OW.skip rfl rfl rfl ?_)
      (first | (refine OW.want rfl ?_; refine OW.rv (RV.move rfl) rfl ?_) | refine OW.skip rfl rfl rfl ?_)
      (first | (refine OW.want rfl ?_; (first | refine OW.rv (RV.idx_o _ rfl rfl rfl rfl rfl (by first | rfl | assumption) (by omega)) rfl ?_ | refine OW.rv (RV.idx_r _ rfl rfl rfl rfl rfl (by first | rfl | assumption) (by omega)) rfl ?_ | refine OW.rv (RV.idx_oz rfl rfl (by omega) rfl rfl (by first | rfl | assumption) (by omega)) rfl ?_ | refine OW.rv (RV.idx_rz rfl rfl (by omega) rfl rfl (by first | rfl | assumption) (by omega)) rfl ?_)) | refine OW.skip rfl rfl rfl ?_)
      (first | (refine OW.want rfl ?_; (first | refine OW.rv (RV.load rfl (by repeat (first | exact List.Mem.head _ | refine List.Mem.tail _ ?_)) (by first | rfl | assumption) rfl rfl (by first | rfl | assumption)) rfl ?_ | refine OW.rv (RV.load_at rfl rfl rfl (by repeat (first | assumption | refine Mem.Says.cons ?_))) rfl ?_)) | refine OW.skip rfl rfl rfl ?_)
      (first | (refine OW.want rfl ?_; refine OW.rv (RV.move rfl) rfl ?_) | refine OW.skip rfl rfl rfl ?_)
      (first | (refine OW.want rfl ?_; (first | refine OW.rv (RV.rem rfl rfl (by omega) (by omega)) rfl ?_ | refine OW.rv (RV.trem rfl rfl (by omega)) rfl ?_)) | refine OW.skip rfl rfl rfl ?_)
      (first | (refine OW.want rfl ?_; refine OW.rv (RV.add rfl rfl (by omega)) rfl ?_) | refine OW.skip rfl rfl rfl ?_)
      (first | (refine OW.want rfl ?_; refine OW.rv (RV.conv_i8 rfl rfl rfl) rfl ?_) | refine OW.skip rfl rfl rfl ?_)
      (first | (refine OW.want rfl ?_; (first | refine OW.rv (RV.neq8_t rfl (by first | rfl | exact lit8 _ rfl) rfl (by first | rfl | exact lit8 _ rfl) (by first | rfl | assumption | decide)) rfl ?_ | refine OW.rv (RV.neq8_f rfl (by first | rfl | exact lit8 _ rfl) rfl (by first | rfl | exact lit8 _ rfl) (by first | rfl | assumption | decide)) rfl ?_ | refine OW.rv (RV.neq8 rfl (by first | rfl | exact lit8 _ rfl) rfl (by first | rfl | exact lit8 _ rfl)) rfl ?_)) | refine OW.skip rfl rfl rfl ?_)
      (first | (refine OW.want rfl ?_; (first | refine OW.rv (RV.pick_t rfl rfl rfl) rfl ?_ | refine OW.rv (RV.pick_f rfl rfl rfl) rfl ?_ | refine OW.rv (RV.pick rfl rfl rfl) rfl ?_)) | refine OW.skip rfl rfl rfl ?_)
      (first | refine OW.rv (RV.pick_t rfl rfl rfl) rfl ?_ | refine OW.rv (RV.pick_f rfl rfl rfl) rfl ?_ | refine OW.rv (RV.pick rfl rfl rfl) rfl ?_)
      refine OW.nil ?_
      (repeat (first | refine CW.seq ?_ | refine QW.then_n ?_ | refine CW.block ?_ | refine CW.ret ?_ | refine CW.skip ?_ | refine CW.exit ?_ | refine QW.then_x ?_ | refine QW.then_r ?_ | refine QW.block_n ?_ | refine QW.block_xe ?_ | refine QW.block_xn rfl ?_ | refine QW.block_r ?_))
      (first | refine CW.cond_t rfl ?_ | refine CW.cond_f rfl ?_ | refine CW.cond_p rfl (fun hq => ?_) (fun hq => ?_) | refine CW.cond_np rfl (fun hq => ?_) (fun hq => ?_) | refine CW.cond rfl (fun hq => ?_) (fun hq => ?_))
      (repeat (first | refine CW.seq ?_ | refine QW.then_n ?_ | refine CW.block ?_ | refine CW.ret ?_ | refine CW.skip ?_ | refine CW.exit ?_ | refine QW.then_x ?_ | refine QW.then_r ?_ | refine QW.block_n ?_ | refine QW.block_xe ?_ | refine QW.block_xn rfl ?_ | refine QW.block_r ?_))
      refine CW.region ?_
      refine OW.rv (RV.move rfl) rfl ?_
      refine OW.rv (RV.add rfl rfl (by omega)) rfl ?_
      refine OW.rv (RV.assign rfl) rfl ?_
      refine OW.nil ?_
      (repeat (first | refine CW.seq ?_ | refine QW.then_n ?_ | refine CW.block ?_ | refine CW.ret ?_ | refine CW.skip ?_ | refine CW.exit ?_ | refine QW.then_x ?_ | refine QW.then_r ?_ | refine QW.block_n ?_ | refine QW.block_xe ?_ | refine QW.block_xn rfl ?_ | refine QW.block_r ?_))
      exact QW.again (k + 1) (by omega) (by omega) ⟨rfl, rfl, rfl, rfl, rfl, trivial⟩ (fun _ m => m)
    · have g2 : (u8s ((List.replicate n0 (BitVec.ofInt 8 (0 % 125))) ++ List.replicate 70 (BitVec.ofInt 8 (125 + 0 % 125))) ++ q0)[0 + k]? = some (U8 (BitVec.ofInt 8 (125 + 0 % 125))) := by
        rw [Nat.zero_add, List.getElem?_append_left (by simp; omega)]
        simp only [u8s, List.getElem?_map]
        rw [List.getElem?_append_right (by simp; omega)]
        rw [List.getElem?_replicate, List.length_replicate, if_pos (by omega)]
        rfl
      (repeat (first | refine CW.seq ?_ | refine QW.then_n ?_ | refine CW.block ?_ | refine CW.ret ?_ | refine CW.skip ?_ | refine CW.exit ?_ | refine QW.then_x ?_ | refine QW.then_r ?_ | refine QW.block_n ?_ | refine QW.block_xe ?_ | refine QW.block_xn rfl ?_ | refine QW.block_r ?_))
      refine CW.region ?_
      refine OW.rv (RV.move rfl) rfl ?_
      refine OW.rv (RV.move rfl) rfl ?_
      (first | refine OW.rv (RV.lss_t rfl rfl (by omega)) rfl ?_ | refine OW.rv (RV.lss_f rfl rfl (by omega)) rfl ?_ | refine OW.rv (RV.lss rfl rfl) rfl ?_)
      refine OW.rv (RV.move rfl) rfl ?_
      (first | (refine OW.want rfl ?_; refine OW.rv (RV.move rfl) rfl ?_) | refine OW.skip rfl rfl rfl ?_)
      (first | (refine OW.want rfl ?_; refine OW.rv (RV.move rfl) rfl ?_) | refine OW.skip rfl rfl rfl ?_)
      (first | (refine OW.want rfl ?_; (first | refine OW.rv (RV.idx_o _ rfl rfl rfl rfl rfl (by first | rfl | assumption) (by omega)) rfl ?_ | refine OW.rv (RV.idx_r _ rfl rfl rfl rfl rfl (by first | rfl | assumption) (by omega)) rfl ?_ | refine OW.rv (RV.idx_oz rfl rfl (by omega) rfl rfl (by first | rfl | assumption) (by omega)) rfl ?_ | refine OW.rv (RV.idx_rz rfl rfl (by omega) rfl rfl (by first | rfl | assumption) (by omega)) rfl ?_)) | refine OW.skip rfl rfl rfl ?_)
      (first | (refine OW.want rfl ?_; (first | refine OW.rv (RV.load rfl (by repeat (first | exact List.Mem.head _ | refine List.Mem.tail _ ?_)) (by first | rfl | assumption) rfl rfl (by first | rfl | assumption)) rfl ?_ | refine OW.rv (RV.load_at rfl rfl rfl (by repeat (first | assumption | refine Mem.Says.cons ?_))) rfl ?_)) | refine OW.skip rfl rfl rfl ?_)
      (first | (refine OW.want rfl ?_; refine OW.rv (RV.move rfl) rfl ?_) | refine OW.skip rfl rfl rfl ?_)
      (first | (refine OW.want rfl ?_; (first | refine OW.rv (RV.idx_o _ rfl rfl rfl rfl rfl (by first | rfl | assumption) (by omega)) rfl ?_ | refine OW.rv (RV.idx_r _ rfl rfl rfl rfl rfl (by first | rfl | assumption) (by omega)) rfl ?_ | refine OW.rv (RV.idx_oz rfl rfl (by omega) rfl rfl (by first | rfl | assumption) (by omega)) rfl ?_ | refine OW.rv (RV.idx_rz rfl rfl (by omega) rfl rfl (by first | rfl | assumption) (by omega)) rfl ?_)) | refine OW.skip rfl rfl rfl ?_)
      (first | (refine OW.want rfl ?_; (first | refine OW.rv (RV.load rfl (by repeat (first | exact List.Mem.head _ | refine List.Mem.tail _ ?_)) (by first | rfl | assumption) rfl rfl (by first | rfl | assumption)) rfl ?_ | refine OW.rv (RV.load_at rfl rfl rfl (by repeat (first | assumption | refine Mem.Says.cons ?_))) rfl ?_)) | refine OW.skip rfl rfl rfl ?_)
      (first | (refine OW.want rfl ?_; refine OW.rv (RV.move rfl) rfl ?_) | refine OW.skip rfl rfl rfl ?_)
      (first | (refine OW.want rfl ?_; (first | refine OW.rv (RV.rem rfl rfl (by omega) (by omega)) rfl ?_ | refine OW.rv (RV.trem rfl rfl (by omega)) rfl ?_)) | refine OW.skip rfl rfl rfl ?_)
      (first | (refine OW.want rfl ?_; refine OW.rv (RV.conv_i8 rfl rfl rfl) rfl ?_) | refine OW.skip rfl rfl rfl ?_)
      (first | (refine OW.want rfl ?_; (first | refine OW.rv (RV.neq8_t rfl (by first | rfl | exact lit8 _ rfl) rfl (by first | rfl | exact lit8 _ rfl) (by first | rfl | assumption | decide)) rfl ?_ | refine OW.rv (RV.neq8_f rfl (by first | rfl | exact lit8 _ rfl) rfl (by first | rfl | exact lit8 _ rfl) (by first | rfl | assumption | decide)) rfl ?_ | refine OW.rv (RV.neq8 rfl (by first | rfl | exact lit8 _ rfl) rfl (by first | rfl | exact lit8 _ rfl)) rfl ?_)) | refine OW.skip rfl rfl rfl ?_)
      (first | (refine OW.want rfl ?_; refine OW.rv (RV.move rfl) rfl ?_) | refine OW.skip rfl rfl rfl ?_)
      (first | (refine OW.want rfl ?_; refine OW.rv (RV.move rfl) rfl ?_) | refine OW.skip rfl rfl rfl ?_)
      (first | (refine OW.want rfl ?_; refine OW.rv (RV.move rfl) rfl ?_) | refine OW.skip rfl rfl rfl ?_)
      (first | (refine OW.want rfl ?_; (first | refine OW.rv (RV.idx_o _ rfl rfl rfl rfl rfl (by first | rfl | assumption) (by omega)) rfl ?_ | refine OW.rv (RV.idx_r _ rfl rfl rfl rfl rfl (by first | rfl | assumption) (by omega)) rfl ?_ | refine OW.rv (RV.idx_oz rfl rfl (by omega) rfl rfl (by first | rfl | assumption) (by omega)) rfl ?_ | refine OW.rv (RV.idx_rz rfl rfl (by omega) rfl rfl (by first | rfl | assumption) (by omega)) rfl ?_)) | refine OW.skip rfl rfl rfl ?_)
      (first | (refine OW.want rfl ?_; (first | refine OW.rv (RV.load rfl (by repeat (first | exact List.Mem.head _ | refine List.Mem.tail _ ?_)) (by first | rfl | assumption) rfl rfl (by first | rfl | assumption)) rfl ?_ | refine OW.rv (RV.load_at rfl rfl rfl (by repeat (first | assumption | refine Mem.Says.cons ?_))) rfl ?_)) | refine OW.skip rfl rfl rfl ?_)
      (first | (refine OW.want rfl ?_; refine OW.rv (RV.move rfl) rfl ?_) | refine OW.skip rfl rfl rfl ?_)
      (first | (refine OW.want rfl ?_; (first | refine OW.rv (RV.idx_o _ rfl rfl rfl rfl rfl (by first | rfl | assumption) (by omega)) rfl ?_ | refine OW.rv (RV.idx_r _ rfl rfl rfl rfl rfl (by first | rfl | assumption) (by omega)) rfl ?_ | refine OW.rv (RV.idx_oz rfl rfl (by omega) rfl rfl (by first | rfl | assumption) (by omega)) rfl ?_ | refine OW.rv (RV.idx_rz rfl rfl (by omega) rfl rfl (by first | rfl | assumption) (by omega)) rfl ?_)) | refine OW.skip rfl rfl rfl ?_)
      (first | (refine OW.want rfl ?_; (first | refine OW.rv (RV.load rfl (by repeat (first | exact List.Mem.head _ | refine List.Mem.tail _ ?_)) (by first | rfl | assumption) rfl rfl (by first | rfl | assumption)) rfl ?_ | refine OW.rv (RV.load_at rfl rfl rfl (by repeat (first | assumption | refine Mem.Says.cons ?_))) rfl ?_)) | refine OW.skip rfl rfl rfl ?_)
      (first | (refine OW.want rfl ?_; refine OW.rv (RV.move rfl) rfl ?_) | refine OW.skip rfl rfl rfl ?_)
      (first | (refine OW.want rfl ?_; (first | refine OW.rv (RV.rem rfl rfl (by omega) (by omega)) rfl ?_ | refine OW.rv (RV.trem rfl rfl (by omega)) rfl ?_)) | refine OW.skip rfl rfl rfl ?_)
      (first | (refine OW.want rfl ?_; refine OW.rv (RV.conv_i8 rfl rfl rfl) rfl ?_) | refine OW.skip rfl rfl rfl ?_)
      (first | (refine OW.want rfl ?_; (first | refine OW.rv (RV.neq8_t rfl (by first | rfl | exact lit8 _ rfl) rfl (by first | rfl | exact lit8 _ rfl) (by first | rfl | assumption | decide)) rfl ?_ | refine OW.rv (RV.neq8_f rfl (by first | rfl | exact lit8 _ rfl) rfl (by first | rfl | exact lit8 _ rfl) (by first | rfl | assumption | decide)) rfl ?_ | refine OW.rv (RV.neq8 rfl (by first | rfl | exact lit8 _ rfl) rfl (by first | rfl | exact lit8 _ rfl)) rfl ?_)) | refine OW.skip rfl rfl rfl ?_)
      (first | (refine OW.want rfl ?_; (first | refine OW.rv (RV.pick_t rfl rfl rfl) rfl ?_ | refine OW.rv (RV.pick_f rfl rfl rfl) rfl ?_ | refine OW.rv (RV.pick rfl rfl rfl) rfl ?_)) | refine OW.skip rfl rfl rfl ?_)
      (first | refine OW.rv (RV.pick_t rfl rfl rfl) rfl ?_ | refine OW.rv (RV.pick_f rfl rfl rfl) rfl ?_ | refine OW.rv (RV.pick rfl rfl rfl) rfl ?_)
      refine OW.rv (RV.move rfl) rfl ?_
      (first | (refine OW.want rfl ?_; refine OW.rv (RV.move rfl) rfl ?_) | refine OW.skip rfl rfl rfl ?_)
      (first | (refine OW.want rfl ?_; refine OW.rv (RV.move rfl) rfl ?_) | refine OW.skip rfl rfl rfl ?_)
      (first | (refine OW.want rfl ?_; (first | refine OW.rv (RV.geq_t rfl rfl (by omega)) rfl ?_ | refine OW.rv (RV.geq_f rfl rfl (by omega)) rfl ?_ | refine OW.rv (RV.geq rfl rfl) rfl ?_)) | refine OW.skip rfl rfl rfl ?_)
      (first | (refine OW.want rfl ?_; refine OW.rv (RV.move rfl) rfl ?_) | refine OW.skip rfl rfl rfl ?_)
      (first | (refine OW.want rfl ?_; refine OW.rv (RV.move rfl) rfl ?_) | refine OW.skip rfl rfl rfl ?_)
      (first | (refine OW.want rfl ?_; refine OW.rv (RV.move rfl) rfl ?_) | refine OW.skip rfl rfl rfl ?_)
      (first | (refine OW.want rfl ?_; (first | refine OW.rv (RV.idx_o _ rfl rfl rfl rfl rfl (by first | rfl | assumption) (by omega)) rfl ?_ | refine OW.rv (RV.idx_r _ rfl rfl rfl rfl rfl (by first | rfl | assumption) (by omega)) rfl ?_ | refine OW.rv (RV.idx_oz rfl rfl (by omega) rfl rfl (by first | rfl | assumption) (by omega)) rfl ?_ | refine OW.rv (RV.idx_rz rfl rfl (by omega) rfl rfl (by first | rfl | assumption) (by omega)) rfl ?_)) | refine OW.skip rfl rfl rfl ?_)
      (first | (refine OW.want rfl ?_; (first | refine OW.rv (RV.load rfl (by repeat (first | exact List.Mem.head _ | refine List.Mem.tail _ ?_)) (by first | rfl | assumption) rfl rfl (by first | rfl | assumption)) rfl ?_ | refine OW.rv (RV.load_at rfl rfl rfl (by repeat (first | assumption | refine Mem.Says.cons ?_))) rfl ?_)) | refine OW.skip rfl rfl rfl ?_)
      (first | (refine OW.want rfl ?_; refine OW.rv (RV.move rfl) rfl ?_) | refine OW.skip rfl rfl rfl ?_)
      (first | (refine OW.want rfl ?_; (first | refine OW.rv (RV.idx_o _ rfl rfl rfl rfl rfl (by first | rfl | assumption) (by omega)) rfl ?_ | refine OW.rv (RV.idx_r _ rfl rfl rfl rfl rfl (by first | rfl | assumption) (by omega)) rfl ?_ | refine OW.rv (RV.idx_oz rfl rfl (by omega) rfl rfl (by first | rfl | assumption) (by omega)) rfl ?_ | refine OW.rv (RV.idx_rz rfl rfl (by omega) rfl rfl (by first | rfl | assumption) (by omega)) rfl ?_)) | refine OW.skip rfl rfl rfl ?_)
      (first | (refine OW.want rfl ?_; (first | refine OW.rv (RV.load rfl (by repeat (first | exact List.Mem.head _ | refine List.Mem.tail _ ?_)) (by first | rfl | assumption) rfl rfl (by first | rfl | assumption)) rfl ?_ | refine OW.rv (RV.load_at rfl rfl rfl (by repeat (first | assumption | refine Mem.Says.cons ?_))) rfl ?_)) | refine OW.skip rfl rfl rfl ?_)
      (first | (refine OW.want rfl ?_; refine OW.rv (RV.move rfl) rfl ?_) | refine OW.skip rfl rfl rfl ?_)
      (first | (refine OW.want rfl ?_; (first | refine OW.rv (RV.rem rfl rfl (by omega) (by omega)) rfl ?_ | refine OW.rv (RV.trem rfl rfl (by omega)) rfl ?_)) | refine OW.skip rfl rfl rfl ?_)
      (first | (refine OW.want rfl ?_; refine OW.rv (RV.add rfl rfl (by omega)) rfl ?_) | refine OW.skip rfl rfl rfl ?_)
      (first | (refine OW.want rfl ?_; refine OW.rv (RV.conv_i8 rfl rfl rfl) rfl ?_) | refine OW.skip rfl rfl rfl ?_)
      (first | (refine OW.want rfl ?_; (first | refine OW.rv (RV.neq8_t rfl (by first | rfl | exact lit8 _ rfl) rfl (by first | rfl | exact lit8 _ rfl) (by first | rfl | assumption | decide)) rfl ?_ | refine OW.rv (RV.neq8_f rfl (by first | rfl | exact lit8 _ rfl) rfl (by first | rfl | exact lit8 _ rfl) (by first | rfl | assumption | decide)) rfl ?_ | refine OW.rv (RV.neq8 rfl (by first | rfl | exact lit8 _ rfl) rfl (by first | rfl | exact lit8 _ rfl)) rfl ?_)) | refine OW.skip rfl rfl rfl ?_)
      (first | (refine OW.want rfl ?_; (first | refine OW.rv (RV.pick_t rfl rfl rfl) rfl ?_ | refine OW.rv (RV.pick_f rfl rfl rfl) rfl ?_ | refine OW.rv (RV.pick rfl rfl rfl) rfl ?_)) | refine OW.skip rfl rfl rfl ?_)
      (first | refine OW.rv (RV.pick_t rfl rfl rfl) rfl ?_ | refine OW.rv (RV.pick_f rfl rfl rfl) rfl ?_ | refine OW.rv (RV.pick rfl rfl rfl) rfl ?_)
      refine OW.nil ?_
      (repeat (first | refine CW.seq ?_ | refine QW.then_n ?_ | refine CW.block ?_ | refine CW.ret ?_ | refine CW.skip ?_ | refine CW.exit ?_ | refine QW.then_x ?_ | refine QW.then_r ?_ | refine QW.block_n ?_ | refine QW.block_xe ?_ | refine QW.block_xn rfl ?_ | refine QW.block_r ?_))
      (first | refine CW.cond_t rfl ?_ | refine CW.cond_f rfl ?_ | refine CW.cond_p rfl (fun hq => ?_) (fun hq => ?_) | refine CW.cond_np rfl (fun hq => ?_) (fun hq => ?_) | refine CW.cond rfl (fun hq => ?_) (fun hq => ?_))
      (repeat (first | refine CW.seq ?_ | refine QW.then_n ?_ | refine CW.block ?_ | refine CW.ret ?_ | refine CW.skip ?_ | refine CW.exit ?_ | refine QW.then_x ?_ | refine QW.then_r ?_ | refine QW.block_n ?_ | refine QW.block_xe ?_ | refine QW.block_xn rfl ?_ | refine QW.block_r ?_))
      refine CW.region ?_
      refine OW.rv (RV.move rfl) rfl ?_
      refine OW.rv (RV.add rfl rfl (by omega)) rfl ?_
      refine OW.rv (RV.assign rfl) rfl ?_
      refine OW.nil ?_
      (repeat (first | refine CW.seq ?_ | refine QW.then_n ?_ | refine CW.block ?_ | refine CW.ret ?_ | refine CW.skip ?_ | refine CW.exit ?_ | refine QW.then_x ?_ | refine QW.then_r ?_ | refine QW.block_n ?_ | refine QW.block_xe ?_ | refine QW.block_xn rfl ?_ | refine QW.block_r ?_))
      exact QW.again (k + 1) (by omega) (by omega) ⟨rfl, rfl, rfl, rfl, rfl, trivial⟩ (fun _ m => m)
  (repeat (first | refine CW.seq ?_ | refine QW.then_n ?_ | refine CW.block ?_ | refine CW.ret ?_ | refine CW.skip ?_ | refine CW.exit ?_ | refine QW.then_x ?_ | refine QW.then_r ?_ | refine QW.block_n ?_ | refine QW.block_xe ?_ | refine QW.block_xn rfl ?_ | refine QW.block_r ?_))
  refine CW.region ?_
  refine OW.rv (RV.move rfl) rfl ?_
  refine OW.rv (RV.add rfl rfl (by omega)) rfl ?_
  refine OW.rv (RV.assign rfl) rfl ?_
  refine OW.nil ?_
  (repeat (first | refine CW.seq ?_ | refine QW.then_n ?_ | refine CW.block ?_ | refine CW.ret ?_ | refine CW.skip ?_ | refine CW.exit ?_ | refine QW.then_x ?_ | refine QW.then_r ?_ | refine QW.block_n ?_ | refine QW.block_xe ?_ | refine QW.block_xn rfl ?_ | refine QW.block_r ?_))
  refine QW.then_k ?_
  clear hk hlt
  refine RW.state (L' := [(0, sl (some bl) 0 3 3), (5, sl om2 0 3 cm2), (9, .int .i64 1)]) ⟨rfl, rfl, rfl, trivial⟩ (fun _ m => m) ?_
  clear k
  refine RW.succ ?_
  (repeat (first | refine CW.seq ?_ | refine QW.then_n ?_ | refine CW.block ?_ | refine CW.ret ?_ | refine CW.skip ?_ | refine CW.exit ?_ | refine QW.then_x ?_ | refine QW.then_r ?_ | refine QW.block_n ?_ | refine QW.block_xe ?_ | refine QW.block_xn rfl ?_ | refine QW.block_r ?_))
  refine CW.region ?_
  refine OW.rv (RV.move rfl) rfl ?_
  refine OW.rv (RV.move rfl) rfl ?_
  refine OW.rv (RV.len rfl rfl) rfl ?_
  (first | refine OW.rv (RV.lss_t rfl rfl (by omega)) rfl ?_ | refine OW.rv (RV.lss_f rfl rfl (by omega)) rfl ?_ | refine OW.rv (RV.lss rfl rfl) rfl ?_)
  refine OW.nil ?_
  (repeat (first | refine CW.seq ?_ | refine QW.then_n ?_ | refine CW.block ?_ | refine CW.ret ?_ | refine CW.skip ?_ | refine CW.exit ?_ | refine QW.then_x ?_ | refine QW.then_r ?_ | refine QW.block_n ?_ | refine QW.block_xe ?_ | refine QW.block_xn rfl ?_ | refine QW.block_r ?_))
  (first | refine CW.cond_t rfl ?_ | refine CW.cond_f rfl ?_ | refine CW.cond_p rfl (fun h => ?_) (fun h => ?_) | refine CW.cond_np rfl (fun h => ?_) (fun h => ?_) | refine CW.cond rfl (fun h => ?_) (fun h => ?_))
  (repeat (first | refine CW.seq ?_ | refine QW.then_n ?_ | refine CW.block ?_ | refine CW.ret ?_ | refine CW.skip ?_ | refine CW.exit ?_ | refine QW.then_x ?_ | refine QW.then_r ?_ | refine QW.block_n ?_ | refine QW.block_xe ?_ | refine QW.block_xn rfl ?_ | refine QW.block_r ?_))
  refine CW.region ?_
  refine OW.rv (RV.move rfl) rfl ?_
  refine OW.rv (RV.move rfl) rfl ?_
  (first | refine OW.rv (RV.idx_o _ rfl rfl rfl rfl rfl (by first | rfl | assumption) (by omega)) rfl ?_ | refine OW.rv (RV.idx_r _ rfl rfl rfl rfl rfl (by first | rfl | assumption) (by omega)) rfl ?_ | refine OW.rv (RV.idx_oz rfl rfl (by omega) rfl rfl (by first | rfl | assumption) (by omega)) rfl ?_ | refine OW.rv (RV.idx_rz rfl rfl (by omega) rfl rfl (by first | rfl | assumption) (by omega)) rfl ?_)
  (first | refine OW.rv (RV.load rfl (by repeat (first | exact List.Mem.head _ | refine List.Mem.tail _ ?_)) (by first | rfl | assumption) rfl rfl (by first | rfl | assumption)) rfl ?_ | refine OW.rv (RV.load_at rfl rfl rfl (by repeat (first | assumption | refine Mem.Says.cons ?_))) rfl ?_)
  refine OW.rv (RV.len rfl rfl) rfl ?_
  refine OW.rv (RV.assign rfl) rfl ?_
  refine OW.nil ?_
  (repeat (first | refine CW.seq ?_ | refine QW.then_n ?_ | refine CW.block ?_ | refine CW.ret ?_ | refine CW.skip ?_ | refine CW.exit ?_ | refine QW.then_x ?_ | refine QW.then_r ?_ | refine QW.block_n ?_ | refine QW.block_xe ?_ | refine QW.block_xn rfl ?_ | refine QW.block_r ?_))
  (repeat (first | refine CW.seq ?_ | refine QW.then_n ?_ | refine CW.block ?_ | refine CW.ret ?_ | refine CW.skip ?_ | refine CW.exit ?_ | refine QW.then_x ?_ | refine QW.then_r ?_ | refine QW.block_n ?_ | refine QW.block_xe ?_ | refine QW.block_xn rfl ?_ | refine QW.block_r ?_))
  refine CW.region ?_
  refine OW.rv (RV.assign rfl) rfl ?_
  refine OW.nil ?_
  (repeat (first | refine CW.seq ?_ | refine QW.then_n ?_ | refine CW.block ?_ | refine CW.ret ?_ | refine CW.skip ?_ | refine CW.exit ?_ | refine QW.then_x ?_ | refine QW.then_r ?_ | refine QW.block_n ?_ | refine QW.block_xe ?_ | refine QW.block_xn rfl ?_ | refine QW.block_r ?_))
  refine CW.loop (σ := Nat) (fun k => k ≤ n1 + 70) (fun k => [(0, sl (some bl) 0 3 3), (5, sl om2 0 3 cm2), (9, .int .i64 1), (10, .int .i64 (n1 : Int)), (11, .int .i64 (k : Int))]) (fun k => (om2, blk ([] ++ [sl (some c0) 0 (n0 + 70) cap0] ++ [sl (some c1) 0 (n1 + 70) cap1] ++ [sl (some c2) 0 (n2 + 70) cap2] ++ rm2) 22) :: (some c2, blk (u8s ((List.replicate n2 (BitVec.ofInt 8 (2 % 125))) ++ List.replicate 70 (BitVec.ofInt 8 (125 + 2 % 125))) ++ q2) 5) :: (some c1, blk (u8s ((List.replicate n1 (BitVec.ofInt 8 (1 % 125))) ++ List.replicate 70 (BitVec.ofInt 8 (125 + 1 % 125))) ++ q1) 5) :: (some c0, blk (u8s ((List.replicate n0 (BitVec.ofInt 8 (0 % 125))) ++ List.replicate 70 (BitVec.ofInt 8 (125 + 0 % 125))) ++ q0) 5) :: (o2, blk (u8s (List.replicate n2 (BitVec.ofInt 8 (2 % 125)))) 5) :: (o1, blk (u8s (List.replicate n1 (BitVec.ofInt 8 (1 % 125)))) 5) :: (o0, blk (u8s (List.replicate n0 (BitVec.ofInt 8 (0 % 125)))) 5) :: (some bl, blk [sl o0 0 n0 n0, sl o1 0 n1 n1, sl o2 0 n2 n2] 22) :: M) (fun k => n1 + 70 - k) 0 (by omega) ⟨rfl, rfl, rfl, rfl, rfl, trivial⟩ (fun _ m => m) ?_
  intro k hk
  (repeat (first | refine CW.seq ?_ | refine QW.then_n ?_ | refine CW.block ?_ | refine CW.ret ?_ | refine CW.skip ?_ | refine CW.exit ?_ | refine QW.then_x ?_ | refine QW.then_r ?_ | refine QW.block_n ?_ | refine QW.block_xe ?_ | refine QW.block_xn rfl ?_ | refine QW.block_r ?_))
  refine CW.region ?_
  refine OW.rv (RV.move rfl) rfl ?_
  refine OW.rv (RV.move rfl) rfl ?_
  refine OW.rv (RV.move rfl) rfl ?_
  (first | refine OW.rv (RV.idx_o _ rfl rfl rfl rfl rfl (by first | rfl | assumption) (by omega)) rfl ?_ | refine OW.rv (RV.idx_r _ rfl rfl rfl rfl rfl (by first | rfl | assumption) (by omega)) rfl ?_ | refine OW.rv (RV.idx_oz rfl rfl (by omega) rfl rfl (by first | rfl | assumption) (by omega)) rfl ?_ | refine OW.rv (RV.idx_rz rfl rfl (by omega) rfl rfl (by first | rfl | assumption) (by omega)) rfl ?_)
  (first | refine OW.rv (RV.load rfl (by repeat (first | exact List.Mem.head _ | refine List.Mem.tail _ ?_)) (by first | rfl | assumption) rfl rfl (by first | rfl | assumption)) rfl ?_ | refine OW.rv (RV.load_at rfl rfl rfl (by repeat (first | assumption | refine Mem.Says.cons ?_))) rfl ?_)
  refine OW.rv (RV.len rfl rfl) rfl ?_
  refine OW.rv (RV.lss rfl rfl) rfl ?_
  refine OW.nil ?_
  (repeat (first | refine CW.seq ?_ | refine QW.then_n ?_ | refine CW.block ?_ | refine CW.ret ?_ | refine CW.skip ?_ | refine CW.exit ?_ | refine QW.then_x ?_ | refine QW.then_r ?_ | refine QW.block_n ?_ | refine QW.block_xe ?_ | refine QW.block_xn rfl ?_ | refine QW.block_r ?_))
  (first | refine CW.cond_t rfl ?_ | refine CW.cond_f rfl ?_ | refine CW.cond_p rfl (fun hlt => ?_) (fun hlt => ?_) | refine CW.cond_np rfl (fun hlt => ?_) (fun hlt => ?_) | refine CW.cond rfl (fun hlt => ?_) (fun hlt => ?_))
  · by_cases hkn : k < n1
    · have hs : o1.isSome = true := by
        cases o1 with
        | none => have := hn1 rfl; omega
        | some b => rfl
      have g1 : (u8s (List.replicate n1 (BitVec.ofInt 8 (1 % 125))))[0 + k]? = some (U8 (BitVec.ofInt 8 (1 % 125))) := by simp [u8s, hkn]
      have g2 : (u8s ((List.replicate n1 (BitVec.ofInt 8 (1 % 125))) ++ List.replicate 70 (BitVec.ofInt 8 (125 + 1 % 125))) ++ q1)[0 + k]? = some (U8 (BitVec.ofInt 8 (1 % 125))) := by
        rw [Nat.zero_add, List.getElem?_append_left (by simp; omega)]
        simp only [u8s, List.getElem?_map]
        rw [List.getElem?_append_left (by simpa using hkn)]
        simp [hkn]
      (repeat (first | refine CW.seq ?_ | refine QW.then_n ?_ | refine CW.block ?_ | refine CW.ret ?_ | refine CW.skip ?_ | refine CW.exit ?_ | refine QW.then_x ?_ | refine QW.then_r ?_ | refine QW.block_n ?_ | refine QW.block_xe ?_ | refine QW.block_xn rfl ?_ | refine QW.block_r ?_))
      refine CW.region ?_
      refine OW.rv (RV.move rfl) rfl ?_
      refine OW.rv (RV.move rfl) rfl ?_
      (first | refine OW.rv (RV.lss_t rfl rfl (by omega)) rfl ?_ | refine OW.rv (RV.lss_f rfl rfl (by omega)) rfl ?_ | refine OW.rv (RV.lss rfl rfl) rfl ?_)
      refine OW.rv (RV.move rfl) rfl ?_
      (first | (refine OW.want rfl ?_; refine OW.rv (RV.move rfl) rfl ?_) | refine OW.skip rfl rfl rfl ?_)
      (first | (refine OW.want rfl ?_; refine OW.rv (RV.move rfl) rfl ?_) | refine OW.skip rfl rfl rfl ?_)
      (first | (refine OW.want rfl ?_; (first | refine OW.rv (RV.idx_o _ rfl rfl rfl rfl rfl (by first | rfl | assumption) (by omega)) rfl ?_ | refine OW.rv (RV.idx_r _ rfl rfl rfl rfl rfl (by first | rfl | assumption) (by omega)) rfl ?_ | refine OW.rv (RV.idx_oz rfl rfl (by omega) rfl rfl (by first | rfl | assumption) (by omega)) rfl ?_ | refine OW.rv (RV.idx_rz rfl rfl (by omega) rfl rfl (by first | rfl | assumption) (by omega)) rfl ?_)) | refine OW.skip rfl rfl rfl ?_)
      (first | (refine OW.want rfl ?_; (first | refine OW.rv (RV.load rfl (by repeat (first | exact List.Mem.head _ | refine List.Mem.tail _ ?_)) (by first | rfl | assumption) rfl rfl (by first | rfl | assumption)) rfl ?_ | refine OW.rv (RV.load_at rfl rfl rfl (by repeat (first | assumption | refine Mem.Says.cons ?_))) rfl ?_)) | refine OW.skip rfl rfl rfl ?_)
      (first | (refine OW.want rfl ?_; refine OW.rv (RV.move rfl) rfl ?_) | refine OW.skip rfl rfl rfl ?_)
      (first | (refine OW.want rfl ?_; (first | refine OW.rv (RV.idx_o _ rfl rfl rfl rfl rfl (by first | rfl | assumption) (by omega)) rfl ?_ | refine OW.rv (RV.idx_r _ rfl rfl rfl rfl rfl (by first | rfl | assumption) (by omega)) rfl ?_ | refine OW.rv (RV.idx_oz rfl rfl (by omega) rfl rfl (by first | rfl | assumption) (by omega)) rfl ?_ | refine OW.rv (RV.idx_rz rfl rfl (by omega) rfl rfl (by first | rfl | assumption) (by omega)) rfl ?_)) | refine OW.skip rfl rfl rfl ?_)
      (first | (refine OW.want rfl ?_; (first | refine OW.rv (RV.load rfl (by repeat (first | exact List.Mem.head _ | refine List.Mem.tail _ ?_)) (by first | rfl | assumption) rfl rfl (by first | rfl | assumption)) rfl ?_ | refine OW.rv (RV.load_at rfl rfl rfl (by repeat (first | assumption | refine Mem.Says.cons ?_))) rfl ?_)) | refine OW.skip rfl rfl rfl ?_)
      (first | (refine OW.want rfl ?_; refine OW.rv (RV.move rfl) rfl ?_) | refine OW.skip rfl rfl rfl ?_)
      (first | (refine OW.want rfl ?_; (first | refine OW.rv (RV.rem rfl rfl (by omega) (by omega)) rfl ?_ | refine OW.rv (RV.trem rfl rfl (by omega)) rfl ?_)) | refine OW.skip rfl rfl rfl ?_)
      (first | (refine OW.want rfl ?_; refine OW.rv (RV.conv_i8 rfl rfl rfl) rfl ?_) | refine OW.skip rfl rfl rfl ?_)
      (first | (refine OW.want rfl ?_; (first | refine OW.rv (RV.neq8_t rfl (by first | rfl | exact lit8 _ rfl) rfl (by first | rfl | exact lit8 _ rfl) (by first | rfl | assumption | decide)) rfl ?_ | refine OW.rv (RV.neq8_f rfl (by first | rfl | exact lit8 _ rfl) rfl (by first | rfl | exact lit8 _ rfl) (by first | rfl | assumption | decide)) rfl ?_ | refine OW.rv (RV.neq8 rfl (by first | rfl | exact lit8 _ rfl) rfl (by first | rfl | exact lit8 _ rfl)) rfl ?_)) | refine OW.skip rfl rfl rfl ?_)
      (first | (refine OW.want rfl ?_; refine OW.rv (RV.move rfl) rfl ?_) | refine OW.skip rfl rfl rfl ?_)
      (first | (refine OW.want rfl ?_; refine OW.rv (RV.move rfl) rfl ?_) | refine OW.skip rfl rfl rfl ?_)
      (first | (refine OW.want rfl ?_; refine OW.rv (RV.move rfl) rfl ?_) | refine OW.skip rfl rfl rfl ?_)
      (first | (refine OW.want rfl ?_; (first | refine OW.rv (RV.idx_o _ rfl rfl rfl rfl rfl (by first | rfl | assumption) (by omega)) rfl ?_ | refine OW.rv (RV.idx_r _ rfl rfl rfl rfl rfl (by first | rfl | assumption) (by omega)) rfl ?_ | refine OW.rv (RV.idx_oz rfl rfl (by omega) rfl rfl (by first | rfl | assumption) (by omega)) rfl ?_ | refine OW.rv (RV.idx_rz rfl rfl (by omega) rfl rfl (by first | rfl | assumption) (by omega)) rfl ?_)) | refine OW.skip rfl rfl rfl ?_)
      (first | (refine OW.want rfl ?_; (first | refine OW.rv (RV.load rfl (by repeat (first | exact List.Mem.head _ | refine List.Mem.tail _ ?_)) (by first | rfl | assumption) rfl rfl (by first | rfl | assumption)) rfl ?_ | refine OW.rv (RV.load_at rfl rfl rfl (by repeat (first | assumption | refine Mem.Says.cons ?_))) rfl ?_)) | refine OW.skip rfl rfl rfl ?_)
      (first | (refine OW.want rfl ?_; refine OW.rv (RV.move rfl) rfl ?_) | refine OW.skip rfl rfl rfl ?_)
      (first | (refine OW.want rfl ?_; (first | refine OW.rv (RV.idx_o _ rfl rfl rfl rfl rfl (by first | rfl | assumption) (by omega)) rfl ?_ | refine OW.rv (RV.idx_r _ rfl rfl rfl rfl rfl (by first | rfl | assumption) (by omega)) rfl ?_ | refine OW.rv (RV.idx_oz rfl rfl (by omega) rfl rfl (by first | rfl | assumption) (by omega)) rfl ?_ | refine OW.rv (RV.idx_rz rfl rfl (by omega) rfl rfl (by first | rfl | assumption) (by omega)) rfl ?_)) | refine OW.skip rfl rfl rfl ?_)
      (first | (refine OW.want rfl ?_; (first | refine OW.rv (RV.load rfl (by repeat (first | exact List.Mem.head _ | refine List.Mem.tail _ ?_)) (by first | rfl | assumption) rfl rfl (by first | rfl | assumption)) rfl ?_ | refine OW.rv (RV.load_at rfl rfl rfl (by repeat (first | assumption | refine Mem.Says.cons ?_))) rfl ?_)) | refine OW.skip rfl rfl rfl ?_)
      (first | (refine OW.want rfl ?_; refine OW.rv (RV.move rfl) rfl ?_) | refine OW.skip rfl rfl rfl ?_)
      (first | (refine OW.want rfl ?_; (first | refine OW.rv (RV.rem rfl rfl (by omega) (by omega)) rfl ?_ | refine OW.rv (RV.trem rfl rfl (by omega)) rfl ?_)) | refine OW.skip rfl rfl rfl ?_)
      (first | (refine OW.want rfl ?_; refine OW.rv (RV.conv_i8 rfl rfl rfl) rfl ?_) | refine OW.skip rfl rfl rfl ?_)
      (first | (refine OW.want rfl ?_; (first | refine OW.rv (RV.neq8_t rfl (by first | rfl | exact lit8 _ rfl) rfl (by first | rfl | exact lit8 _ rfl) (by first | rfl | assumption | decide)) rfl ?_ | refine OW.rv (RV.neq8_f rfl (by first | rfl | exact lit8 _ rfl) rfl (by first | rfl | exact lit8 _ rfl) (by first | rfl | assumption | decide)) rfl ?_ | refine OW.rv (RV.neq8 rfl (by first | rfl | exact lit8 _ rfl) rfl (by first | rfl | exact lit8 _ rfl)) rfl ?_)) | refine OW.skip rfl rfl rfl ?_)
      (first | (refine OW.want rfl ?_; (first | refine OW.rv (RV.pick_t rfl rfl rfl) rfl ?_ | refine OW.rv (RV.pick_f rfl rfl rfl) rfl ?_ | refine OW.rv (RV.pick rfl rfl rfl) rfl ?_)) | refine OW.skip rfl rfl rfl ?_)
      (first | refine OW.rv (RV.pick_t rfl rfl rfl) rfl ?_ | refine OW.rv (RV.pick_f rfl rfl rfl) rfl ?_ | refine OW.rv (RV.pick rfl rfl rfl) rfl ?_)
      refine OW.rv (RV.move rfl) rfl ?_
      (first | (refine OW.want rfl ?_; refine OW.rv (RV.move rfl) rfl ?_) | refine OW.skip rfl rfl rfl ?_)
      (first | (refine OW.want rfl ?_; refine OW.rv (RV.move rfl) rfl ?_) | refine OW.skip rfl rfl rfl ?_)
      (first | (refine OW.want rfl ?_; (first | refine OW.rv (RV.geq_t rfl rfl (by omega)) rfl ?_ | refine OW.rv (RV.geq_f rfl rfl (by omega)) rfl ?_ | refine OW.rv (RV.geq rfl rfl) rfl ?_)) | refine OW.skip rfl rfl rfl ?_)
      (first | (refine OW.want rfl ?_; refine OW.rv (RV.move rfl) rfl ?_) | refine OW.skip rfl rfl rfl ?_)
      (first | (refine OW.want rfl ?_; refine OW.rv (RV.move rfl) rfl ?_) | refine OW.skip rfl rfl rfl ?_)
      (first | (refine OW.want rfl ?_; refine OW.rv (RV.move rfl) rfl ?_) | refine OW.skip rfl rfl rfl ?_)
      (first | (refine OW.want rfl ?_; (first | refine OW.rv (RV.idx_o _ rfl rfl rfl rfl rfl (by first | rfl | assumption) (by omega)) rfl ?_ | refine OW.rv (RV.idx_r _ rfl rfl rfl rfl rfl (by first | rfl | assumption) (by omega)) rfl ?_ | refine OW.rv (RV.idx_oz rfl rfl (by omega) rfl rfl (by first | rfl | assumption) (by omega)) rfl ?_ | refine OW.rv (RV.idx_rz rfl rfl (by omega) rfl rfl (by first | rfl | assumption) (by omega)) rfl ?_)) | refine OW.skip rfl rfl rfl ?_)
      (first | (refine OW.want rfl ?_; (first | refine OW.rv (RV.load rfl (by repeat (first | exact List.Mem.head _ | refine List.Mem.tail _ ?_)) (by first | rfl | assumption) rfl rfl (by first | rfl | assumption)) rfl ?_ | refine OW.rv (RV.load_at rfl rfl rfl (by repeat (first | assumption | refine Mem.Says.cons ?_))) rfl ?_)) | refine OW.skip rfl rfl rfl ?_)
      (first | (refine OW.want rfl ?_; refine OW.rv (RV.move rfl) rfl ?_) | refine OW.skip rfl rfl rfl ?_)
      (first | (refine OW.want rfl ?_; (first | refine OW.rv (RV.idx_o _ rfl rfl rfl rfl rfl (by first | rfl | assumption) (by omega)) rfl ?_ | refine OW.rv (RV.idx_r _ rfl rfl rfl rfl rfl (by first | rfl | assumption) (by omega)) rfl ?_ | refine OW.rv (RV.idx_oz rfl rfl (by omega) rfl rfl (by first | rfl | assumption) (by omega)) rfl ?_ | refine OW.rv (RV.idx_rz rfl rfl (by omega) rfl rfl (by first | rfl | assumption) (by omega)) rfl ?_)) | refine OW.skip rfl rfl rfl ?_)
      (first | (refine OW.want rfl ?_; (first | refine OW.rv (RV.load rfl (by repeat (first | exact List.Mem.head _ | refine List.Mem.tail _ ?_)) (by first | rfl | assumption) rfl rfl (by first | rfl | assumption)) rfl ?_ | refine OW.rv (RV.load_at rfl rfl rfl (by repeat (first | assumption | refine Mem.Says.cons ?_))) rfl ?_)) | refine OW.skip rfl rfl rfl ?_)
      (first | (refine OW.want rfl ?_; refine OW.rv (RV.move rfl) rfl ?_) | refine OW.skip rfl rfl rfl ?_)
      (first | (refine OW.want rfl ?_; (first | refine OW.rv (RV.rem rfl rfl (by omega) (by omega)) rfl ?_ | refine OW.rv (RV.trem rfl rfl (by omega)) rfl ?_)) | refine OW.skip rfl rfl rfl ?_)
      (first | (refine OW.want rfl ?_; refine OW.rv (RV.add rfl rfl (by omega)) rfl ?_) | refine OW.skip rfl rfl rfl ?_)
      (first | (refine OW.want rfl ?_; refine OW.rv (RV.conv_i8 rfl rfl rfl) rfl ?_) | refine OW.skip rfl rfl rfl ?_)
      (first | (refine OW.want rfl ?_; (first | refine OW.rv (RV.neq8_t rfl (by first | rfl | exact lit8 _ rfl) rfl (by first | rfl | exact lit8 _ rfl) (by first | rfl | assumption | decide)) rfl ?_ | refine OW.rv (RV.neq8_f rfl (by first | rfl | exact lit8 _ rfl) rfl (by first | rfl | exact lit8 _ rfl) (by first | rfl | assumption | decide)) rfl ?_ | refine OW.rv (RV.neq8 rfl (by first | rfl | exact lit8 _ rfl) rfl (by first | rfl | exact lit8 _ rfl)) rfl ?_)) | refine OW.skip rfl rfl rfl ?_)
      (first | (refine OW.want rfl ?_; (first | refine OW.rv (RV.pick_t rfl rfl rfl) rfl ?_ | refine OW.rv (RV.pick_f rfl rfl rfl) rfl ?_ | refine OW.rv (RV.pick rfl rfl rfl) rfl ?_)) | refine OW.skip rfl rfl rfl ?_)
      (first | refine OW.rv (RV.pick_t rfl rfl rfl) rfl ?_ | refine OW.rv (RV.pick_f rfl rfl rfl) rfl ?_ | refine OW.rv (RV.pick rfl rfl rfl) rfl ?_)
      refine OW.nil ?_
      (repeat (first | refine CW.seq ?_ | refine QW.then_n ?_ | refine CW.block ?_ | refine CW.ret ?_ | refine CW.skip ?_ | refine CW.exit ?_ | refine QW.then_x ?_ | refine QW.then_r ?_ | refine QW.block_n ?_ | refine QW.block_xe ?_ | refine QW.block_xn rfl ?_ | refine QW.block_r ?_))
      (first | refine CW.cond_t rfl ?_ | refine CW.cond_f rfl ?_ | refine CW.cond_p rfl (fun hq => ?_) (fun hq => ?_) | refine CW.cond_np rfl (fun hq => ?_) (fun hq => ?_) | refine CW.cond rfl (fun hq => ?_) (fun hq => ?_))
      (repeat (first | refine CW.seq ?_ | refine QW.then_n ?_ | refine CW.block ?_ | refine CW.ret ?_ | refine CW.skip ?_ | refine CW.exit ?_ | refine QW.then_x ?_ | refine QW.then_r ?_ | refine QW.block_n ?_ | refine QW.block_xe ?_ | refine QW.block_xn rfl ?_ | refine QW.block_r ?_))
      refine CW.region ?_
      refine OW.rv (RV.move rfl) rfl ?_
      refine OW.rv (RV.add rfl rfl (by omega)) rfl ?_
      refine OW.rv (RV.assign rfl) rfl ?_
      refine OW.nil ?_
      (repeat (first | refine CW.seq ?_ | refine QW.then_n ?_ | refine CW.block ?_ | refine CW.ret ?_ | refine CW.skip ?_ | refine CW.exit ?_ | refine QW.then_x ?_ | refine QW.then_r ?_ | refine QW.block_n ?_ | refine QW.block_xe ?_ | refine QW.block_xn rfl ?_ | refine QW.block_r ?_))
      exact QW.again (k + 1) (by omega) (by omega) ⟨rfl, rfl, rfl, rfl, rfl, trivial⟩ (fun _ m => m)
    · have g2 : (u8s ((List.replicate n1 (BitVec.ofInt 8 (1 % 125))) ++ List.replicate 70 (BitVec.ofInt 8 (125 + 1 % 125))) ++ q1)[0 + k]? = some (U8 (BitVec.ofInt 8 (125 + 1 % 125))) := by
        rw [Nat.zero_add, List.getElem?_append_left (by simp; omega)]
        simp only [u8s, List.getElem?_map]
        rw [List.getElem?_append_right (by simp; omega)]
        rw [List.getElem?_replicate, List.length_replicate, if_pos (by omega)]
        rfl
      (repeat (first | refine CW.seq ?_ | refine QW.then_n ?_ | refine CW.block ?_ | refine CW.ret ?_ | refine CW.skip ?_ | refine CW.exit ?_ | refine QW.then_x ?_ | refine QW.then_r ?_ | refine QW.block_n ?_ | refine QW.block_xe ?_ | refine QW.block_xn rfl ?_ | refine QW.block_r ?_))
      refine CW.region ?_
      refine OW.rv (RV.move rfl) rfl ?_
      refine OW.rv (RV.move rfl) rfl ?_
      (first | refine OW.rv (RV.lss_t rfl rfl (by omega)) rfl ?_ | refine OW.rv (RV.lss_f rfl rfl (by omega)) rfl ?_ | refine OW.rv (RV.lss rfl rfl) rfl ?_)
      refine OW.rv (RV.move rfl) rfl ?_
      (first | (refine OW.want rfl ?_; refine OW.rv (RV.move rfl) rfl ?_) | refine OW.skip rfl rfl rfl ?_)
      (first | (refine OW.want rfl ?_; refine OW.rv (RV.move rfl) rfl ?_) | refine OW.skip rfl rfl rfl ?_)
      (first | (refine OW.want rfl ?_; (first | refine OW.rv (RV.idx_o _ rfl rfl rfl rfl rfl (by first | rfl | assumption) (by omega)) rfl ?_ | refine OW.rv (RV.idx_r _ rfl rfl rfl rfl rfl (by first | rfl | assumption) (by omega)) rfl ?_ | refine OW.rv (RV.idx_oz rfl rfl (by omega) rfl rfl (by first | rfl | assumption) (by omega)) rfl ?_ | refine OW.rv (RV.idx_rz rfl rfl (by omega) rfl rfl (by first | rfl | assumption) (by omega)) rfl ?_)) | refine OW.skip rfl rfl rfl ?_)
      (first | (refine OW.want rfl ?_; (first | refine OW.rv (RV.load rfl (by repeat (first | exact List.Mem.head _ | refine List.Mem.tail _ ?_)) (by first | rfl | assumption) rfl rfl (by first | rfl | assumption)) rfl ?_ | refine OW.rv (RV.load_at rfl rfl rfl (by repeat (first | assumption | refine Mem.Says.cons ?_))) rfl ?_)) | refine OW.skip rfl rfl rfl ?_)
      (first | (refine OW.want rfl ?_; refine OW.rv (RV.move rfl) rfl ?_) | refine OW.skip rfl rfl rfl ?_)
      (first | (refine OW.want rfl ?_; (first | refine OW.rv (RV.idx_o _ rfl rfl rfl rfl rfl (by first | rfl | assumption) (by omega)) rfl ?_ | refine OW.rv (RV.idx_r _ rfl rfl rfl rfl rfl (by first | rfl | assumption) (by omega)) rfl ?_ | refine OW.rv (RV.idx_oz rfl rfl (by omega) rfl rfl (by first | rfl | assumption) (by omega)) rfl ?_ | refine OW.rv (RV.idx_rz rfl rfl (by omega) rfl rfl (by first | rfl | assumption) (by omega)) rfl ?_)) | refine OW.skip rfl rfl rfl ?_)
      (first | (refine OW.want rfl ?_; (first | refine OW.rv (RV.load rfl (by repeat (first | exact List.Mem.head _ | refine List.Mem.tail _ ?_)) (by first | rfl | assumption) rfl rfl (by first | rfl | assumption)) rfl ?_ | refine OW.rv (RV.load_at rfl rfl rfl (by repeat (first | assumption | refine Mem.Says.cons ?_))) rfl ?_)) | refine OW.skip rfl rfl rfl ?_)
      (first | (refine OW.want rfl ?_; refine OW.rv (RV.move rfl) rfl ?_) | refine OW.skip rfl rfl rfl ?_)
      (first | (refine OW.want rfl ?_; (first | refine OW.rv (RV.rem rfl rfl (by omega) (by omega)) rfl ?_ | refine OW.rv (RV.trem rfl rfl (by omega)) rfl ?_)) | refine OW.skip rfl rfl rfl ?_)
      (first | (refine OW.want rfl ?_; refine OW.rv (RV.conv_i8 rfl rfl rfl) rfl ?_) | refine OW.skip rfl rfl rfl ?_)
      (first | (refine OW.want rfl ?_; (first | refine OW.rv (RV.neq8_t rfl (by first | rfl | exact lit8 _ rfl) rfl (by first | rfl | exact lit8 _ rfl) (by first | rfl | assumption | decide)) rfl ?_ | refine OW.rv (RV.neq8_f rfl (by first | rfl | exact lit8 _ rfl) rfl (by first | rfl | exact lit8 _ rfl) (by first | rfl | assumption | decide)) rfl ?_ | refine OW.rv (RV.neq8 rfl (by first | rfl | exact lit8 _ rfl) rfl (by first | rfl | exact lit8 _ rfl)) rfl ?_)) | refine OW.skip rfl rfl rfl ?_)
      (first | (refine OW.want rfl ?_; refine OW.rv (RV.move rfl) rfl ?_) | refine OW.skip rfl rfl rfl ?_)
      (first | (refine OW.want rfl ?_; refine OW.rv (RV.move rfl) rfl ?_) | refine OW.skip rfl rfl rfl ?_)
      (first | (refine OW.want rfl ?_; refine OW.rv (RV.move rfl) rfl ?_) | refine OW.skip rfl rfl rfl ?_)
      (first | (refine OW.want rfl ?_; (first | refine OW.rv (RV.idx_o _ rfl rfl rfl rfl rfl (by first | rfl | assumption) (by omega)) rfl ?_ | refine OW.rv (RV.idx_r _ rfl rfl rfl rfl rfl (by first | rfl | assumption) (by omega)) rfl ?_ | refine OW.rv (RV.idx_oz rfl rfl (by omega) rfl rfl (by first | rfl | assumption) (by omega)) rfl ?_ | refine OW.rv (RV.idx_rz rfl rfl (by omega) rfl rfl (by first | rfl | assumption) (by omega)) rfl ?_)) | refine OW.skip rfl rfl rfl ?_)
      (first | (refine OW.want rfl ?_; (first | refine OW.rv (RV.load rfl (by repeat (first | exact List.Mem.head _ | refine List.Mem.tail _ ?_)) (by first | rfl | assumption) rfl rfl (by first | rfl | assumption)) rfl ?_ | refine OW.rv (RV.load_at rfl rfl rfl (by repeat (first | assumption | refine Mem.Says.cons ?_))) rfl ?_)) | refine OW.skip rfl rfl rfl ?_)
      (first | (refine OW.want rfl ?_; refine OW.rv (RV.move rfl) rfl ?_) | refine OW.skip rfl rfl rfl ?_)
      (first | (refine OW.want rfl ?_; (first | refine OW.rv (RV.idx_o _ rfl rfl rfl rfl rfl (by first | rfl | assumption) (by omega)) rfl ?_ | refine OW.rv (RV.idx_r _ rfl rfl rfl rfl rfl (by first | rfl | assumption) (by omega)) rfl ?_ | refine OW.rv (RV.idx_oz rfl rfl (by omega) rfl rfl (by first | rfl | assumption) (by omega)) rfl ?_ | refine OW.rv (RV.idx_rz rfl rfl (by omega) rfl rfl (by first | rfl | assumption) (by omega)) rfl ?_)) | refine OW.skip rfl rfl rfl ?_)
      (first | (refine OW.want rfl ?_; (first | refine OW.rv (RV.load rfl (by repeat (first | exact List.Mem.head _ | refine List.Mem.tail _ ?_)) (by first | rfl | assumption) rfl rfl (by first | rfl | assumption)) rfl ?_ | refine OW.rv (RV.load_at rfl rfl rfl (by repeat (first | assumption | refine Mem.Says.cons ?_))) rfl ?_)) | refine OW.skip rfl rfl rfl ?_)
      (first | (refine OW.want rfl ?_; refine OW.rv (RV.move rfl) rfl ?_) | refine OW.skip rfl rfl rfl ?_)
      (first | (refine OW.want rfl ?_; (first | refine OW.rv (RV.rem rfl rfl (by omega) (by omega)) rfl ?_ | refine OW.rv (RV.trem rfl rfl (by omega)) rfl ?_)) | refine OW.skip rfl rfl rfl ?_)
      (first | (refine OW.want rfl ?_; refine OW.rv (RV.conv_i8 rfl rfl rfl) rfl ?_) | refine OW.skip rfl rfl rfl ?_)
      (first | (refine OW.want rfl ?_; (first | refine OW.rv (RV.neq8_t rfl (by first | rfl | exact lit8 _ rfl) rfl (by first | rfl | exact lit8 _ rfl) (by first | rfl | assumption | decide)) rfl ?_ | refine OW.rv (RV.neq8_f rfl (by first | rfl | exact lit8 _ rfl) rfl (by first | rfl | exact lit8 _ rfl) (by first | rfl | assumption | decide)) rfl ?_ | refine OW.rv (RV.neq8 rfl (by first | rfl | exact lit8 _ rfl) rfl (by first | rfl | exact lit8 _ rfl)) rfl ?_)) | refine OW.skip rfl rfl rfl ?_)
      (first | (refine OW.want rfl ?_; (first | refine OW.rv (RV.pick_t rfl rfl rfl) rfl ?_ | refine OW.rv (RV.pick_f rfl rfl rfl) rfl ?_ | refine OW.rv (RV.pick rfl rfl rfl) rfl ?_)) | refine OW.skip rfl rfl rfl ?_)
      (first | refine OW.rv (RV.pick_t rfl rfl rfl) rfl ?_ | refine OW.rv (RV.pick_f rfl rfl rfl) rfl ?_ | refine OW.rv (RV.pick rfl rfl rfl) rfl ?_)
      refine OW.rv (RV.move rfl) rfl ?_
      (first | (refine OW.want rfl ?_; refine OW.rv (RV.move rfl) rfl ?_) | refine OW.skip rfl rfl rfl ?_)
      (first | (refine OW.want rfl ?_; refine OW.rv (RV.move rfl) rfl ?_) | refine OW.skip rfl rfl rfl ?_)
      (first | (refine OW.want rfl ?_; (first | refine OW.rv (RV.geq_t rfl rfl (by omega)) rfl ?_ | refine OW.rv (RV.geq_f rfl rfl (by omega)) rfl ?_ | refine OW.rv (RV.geq rfl rfl) rfl ?_)) | refine OW.skip rfl rfl rfl ?_)
      (first | (refine OW.want rfl ?_; refine OW.rv (RV.move rfl) rfl ?_) | refine OW.skip rfl rfl rfl ?_)
      (first | (refine OW.want rfl ?_; refine OW.rv (RV.move rfl) rfl ?_) | refine OW.skip rfl rfl rfl ?_)
      (first | (refine OW.want rfl ?_; refine OW.rv (RV.move rfl) rfl ?_) | refine OW.skip rfl rfl rfl ?_)
      (first | (refine OW.want rfl ?_; (first | refine OW.rv (RV.idx_o _ rfl rfl rfl rfl rfl (by first | rfl | assumption) (by omega)) rfl ?_ | refine OW.rv (RV.idx_r _ rfl rfl rfl rfl rfl (by first | rfl | assumption) (by omega)) rfl ?_ | refine OW.rv (RV.idx_oz rfl rfl (by omega) rfl rfl (by first | rfl | assumption) (by omega)) rfl ?_ | refine OW.rv (RV.idx_rz rfl rfl (by omega) rfl rfl (by first | rfl | assumption) (by omega)) rfl ?_)) | refine OW.skip rfl rfl rfl ?_)
      (first | (refine OW.want rfl ?_; (first | refine OW.rv (RV.load rfl (by repeat (first | exact List.Mem.head _ | refine List.Mem.tail _ ?_)) (by first | rfl | assumption) rfl rfl (by first | rfl | assumption)) rfl ?_ | refine OW.rv (RV.load_at rfl rfl rfl (by repeat (first | assumption | refine Mem.Says.cons ?_))) rfl ?_)) | refine OW.skip rfl rfl rfl ?_)
      (first | (refine OW.want rfl ?_; refine OW.rv (RV.move rfl) rfl ?_) | refine OW.skip rfl rfl rfl ?_)
      (first | (refine OW.want rfl ?_; (first | refine OW.rv (RV.idx_o _ rfl rfl rfl rfl rfl (by first | rfl | assumption) (by omega)) rfl ?_ | refine OW.rv (RV.idx_r _ rfl rfl rfl rfl rfl (by first | rfl | assumption) (by omega)) rfl ?_ | refine OW.rv (RV.idx_oz rfl rfl (by omega) rfl rfl (by first | rfl | assumption) (by omega)) rfl ?_ | refine OW.rv (RV.idx_rz rfl rfl (by omega) rfl rfl (by first | rfl | assumption) (by omega)) rfl ?_)) | refine OW.skip rfl rfl rfl ?_)
      (first | (refine OW.want rfl ?_; (first | refine OW.rv (RV.load rfl (by repeat (first | exact List.Mem.head _ | refine List.Mem.tail _ ?_)) (by first | rfl | assumption) rfl rfl (by first | rfl | assumption)) rfl ?_ | refine OW.rv (RV.load_at rfl rfl rfl (by repeat (first | assumption | refine Mem.Says.cons ?_))) rfl ?_)) | refine OW.skip rfl rfl rfl ?_)
      (first | (refine OW.want rfl ?_; refine OW.rv (RV.move rfl) rfl ?_) | refine OW.skip rfl rfl rfl ?_)
      (first | (refine OW.want rfl ?_; (first | refine OW.rv (RV.rem rfl rfl (by omega) (by omega)) rfl ?_ | refine OW.rv (RV.trem rfl rfl (by omega)) rfl ?_)) | refine OW.skip rfl rfl rfl ?_)
      (first | (refine OW.want rfl ?_; refine OW.rv (RV.add rfl rfl (by omega)) rfl ?_) | refine OW.skip rfl rfl rfl ?_)
      (first | (refine OW.want rfl ?_; refine OW.rv (RV.conv_i8 rfl rfl rfl) rfl ?_) | refine OW.skip rfl rfl rfl ?_)
      (first | (refine OW.want rfl ?_; (first | refine OW.rv (RV.neq8_t rfl (by first | rfl | exact lit8 _ rfl) rfl (by first | rfl | exact lit8 _ rfl) (by first | rfl | assumption | decide)) rfl ?_ | refine OW.rv (RV.neq8_f rfl (by first | rfl | exact lit8 _ rfl) rfl (by first | rfl | exact lit8 _ rfl) (by first | rfl | assumption | decide)) rfl ?_ | refine OW.rv (RV.neq8 rfl (by first | rfl | exact lit8 _ rfl) rfl (by first | rfl | exact lit8 _ rfl)) rfl ?_)) | refine OW.skip rfl rfl rfl ?_)
      (first | (refine OW.want rfl ?_; (first | refine OW.rv (RV.pick_t rfl rfl rfl) rfl ?_ | refine OW.rv (RV.pick_f rfl rfl rfl) rfl ?_ | refine OW.rv (RV.pick rfl rfl rfl) rfl ?_)) | refine OW.skip rfl rfl rfl ?_)
      (first | refine OW.rv (RV.pick_t rfl rfl rfl) rfl ?_ | refine OW.rv (RV.pick_f rfl rfl rfl) rfl ?_ | refine OW.rv (RV.pick rfl rfl rfl) rfl ?_)
      refine OW.nil ?_
      (repeat (first | refine CW.seq ?_ | refine QW.then_n ?_ | refine CW.block ?_ | refine CW.ret ?_ | refine CW.skip ?_ | refine CW.exit ?_ | refine QW.then_x ?_ | refine QW.then_r ?_ | refine QW.block_n ?_ | refine QW.block_xe ?_ | refine QW.block_xn rfl ?_ | refine QW.block_r ?_))
      (first | refine CW.cond_t rfl ?_ | refine CW.cond_f rfl ?_ | refine CW.cond_p rfl (fun hq => ?_) (fun hq => ?_) | refine CW.cond_np rfl (fun hq => ?_) (fun hq => ?_) | refine CW.cond rfl (fun hq => ?_) (fun hq => ?_))
      (repeat (first | refine CW.seq ?_ | refine QW.then_n ?_ | refine CW.block ?_ | refine CW.ret ?_ | refine CW.skip ?_ | refine CW.exit ?_ | refine QW.then_x ?_ | refine QW.then_r ?_ | refine QW.block_n ?_ | refine QW.block_xe ?_ | refine QW.block_xn rfl ?_ | refine QW.block_r ?_))
      refine CW.region ?_
      refine OW.rv (RV.move rfl) rfl ?_
      refine OW.rv (RV.add rfl rfl (by omega)) rfl ?_
      refine OW.rv (RV.assign rfl) rfl ?_
      refine OW.nil ?_
      (repeat (first | refine CW.seq ?_ | refine QW.then_n ?_ | refine CW.block ?_ | refine CW.ret ?_ | refine CW.skip ?_ | refine CW.exit ?_ | refine QW.then_x ?_ | refine QW.then_r ?_ | refine QW.block_n ?_ | refine QW.block_xe ?_ | refine QW.block_xn rfl ?_ | refine QW.block_r ?_))
      exact QW.again (k + 1) (by omega) (by omega) ⟨rfl, rfl, rfl, rfl, rfl, trivial⟩ (fun _ m => m)
  (repeat (first | refine CW.seq ?_ | refine QW.then_n ?_ | refine CW.block ?_ | refine CW.ret ?_ | refine CW.skip ?_ | refine CW.exit ?_ | refine QW.then_x ?_ | refine QW.then_r ?_ | refine QW.block_n ?_ | refine QW.block_xe ?_ | refine QW.block_xn rfl ?_ | refine QW.block_r ?_))
  refine CW.region ?_
  refine OW.rv (RV.move rfl) rfl ?_
  refine OW.rv (RV.add rfl rfl (by omega)) rfl ?_
  refine OW.rv (RV.assign rfl) rfl ?_
  refine OW.nil ?_
  (repeat (first | refine CW.seq ?_ | refine QW.then_n ?_ | refine CW.block ?_ | refine CW.ret ?_ | refine CW.skip ?_ | refine CW.exit ?_ | refine QW.then_x ?_ | refine QW.then_r ?_ | refine QW.block_n ?_ | refine QW.block_xe ?_ | refine QW.block_xn rfl ?_ | refine QW.block_r ?_))
  refine QW.then_k ?_
  clear hk hlt
  refine RW.state (L' := [(0, sl (some bl) 0 3 3), (5, sl om2 0 3 cm2), (9, .int .i64 2)]) ⟨rfl, rfl, rfl, trivial⟩ (fun _ m => m) ?_
  clear k
  refine RW.succ ?_
  (repeat (first | refine CW.seq ?_ | refine QW.then_n ?_ | refine CW.block ?_ | refine CW.ret ?_ | refine CW.skip ?_ | refine CW.exit ?_ | refine QW.then_x ?_ | refine QW.then_r ?_ | refine QW.block_n ?_ | refine QW.block_xe ?_ | refine QW.block_xn rfl ?_ | refine QW.block_r ?_))
  refine CW.region ?_
  refine OW.rv (RV.move rfl) rfl ?_
  refine OW.rv (RV.move rfl) rfl ?_
  refine OW.rv (RV.len rfl rfl) rfl ?_
  (first | refine OW.rv (RV.lss_t rfl rfl (by omega)) rfl ?_ | refine OW.rv (RV.lss_f rfl rfl (by omega)) rfl ?_ | refine OW.rv (RV.lss rfl rfl) rfl ?_)
  refine OW.nil ?_
  (repeat (first | refine CW.seq ?_ | refine QW.then_n ?_ | refine CW.block ?_ | refine CW.ret ?_ | refine CW.skip ?_ | refine CW.exit ?_ | refine QW.then_x ?_ | refine QW.then_r ?_ | refine QW.block_n ?_ | refine QW.block_xe ?_ | refine QW.block_xn rfl ?_ | refine QW.block_r ?_))
  (first | refine CW.cond_t rfl ?_ | refine CW.cond_f rfl ?_ | refine CW.cond_p rfl (fun h => ?_) (fun h => ?_) | refine CW.cond_np rfl (fun h => ?_) (fun h => ?_) | refine CW.cond rfl (fun h => ?_) (fun h => ?_))
  (repeat (first | refine CW.seq ?_ | refine QW.then_n ?_ | refine CW.block ?_ | refine CW.ret ?_ | refine CW.skip ?_ | refine CW.exit ?_ | refine QW.then_x ?_ | refine QW.then_r ?_ | refine QW.block_n ?_ | refine QW.block_xe ?_ | refine QW.block_xn rfl ?_ | refine QW.block_r ?_))
  refine CW.region ?_
  refine OW.rv (RV.move rfl) rfl ?_
  refine OW.rv (RV.move rfl) rfl ?_
  (first | refine OW.rv (RV.idx_o _ rfl rfl rfl rfl rfl (by first | rfl | assumption) (by omega)) rfl ?_ | refine OW.rv (RV.idx_r _ rfl rfl rfl rfl rfl (by first | rfl | assumption) (by omega)) rfl ?_ | refine OW.rv (RV.idx_oz rfl rfl (by omega) rfl rfl (by first | rfl | assumption) (by omega)) rfl ?_ | refine OW.rv (RV.idx_rz rfl rfl (by omega) rfl rfl (by first | rfl | assumption) (by omega)) rfl ?_)
  (first | refine OW.rv (RV.load rfl (by repeat (first | exact List.Mem.head _ | refine List.Mem.tail _ ?_)) (by first | rfl | assumption) rfl rfl (by first | rfl | assumption)) rfl ?_ | refine OW.rv (RV.load_at rfl rfl rfl (by repeat (first | assumption | refine Mem.Says.cons ?_))) rfl ?_)
  refine OW.rv (RV.len rfl rfl) rfl ?_
  refine OW.rv (RV.assign rfl) rfl ?_
  refine OW.nil ?_
  (repeat (first | refine CW.seq ?_ | refine QW.then_n ?_ | refine CW.block ?_ | refine CW.ret ?_ | refine CW.skip ?_ | refine CW.exit ?_ | refine QW.then_x ?_ | refine QW.then_r ?_ | refine QW.block_n ?_ | refine QW.block_xe ?_ | refine QW.block_xn rfl ?_ | refine QW.block_r ?_))
  (repeat (first | refine CW.seq ?_ | refine QW.then_n ?_ | refine CW.block ?_ | refine CW.ret ?_ | refine CW.skip ?_ | refine CW.exit ?_ | refine QW.then_x ?_ | refine QW.then_r ?_ | refine QW.block_n ?_ | refine QW.block_xe ?_ | refine QW.block_xn rfl ?_ | refine QW.block_r ?_))
  refine CW.region ?_
  refine OW.rv (RV.assign rfl) rfl ?_
  refine OW.nil ?_
  (repeat (first | refine CW.seq ?_ | refine QW.then_n ?_ | refine CW.block ?_ | refine CW.ret ?_ | refine CW.skip ?_ | refine CW.exit ?_ | refine QW.then_x ?_ | refine QW.then_r ?_ | refine QW.block_n ?_ | refine QW.block_xe ?_ | refine QW.block_xn rfl ?_ | refine QW.block_r ?_))
  refine CW.loop (σ := Nat) (fun k => k ≤ n2 + 70) (fun k => [(0, sl (some bl) 0 3 3), (5, sl om2 0 3 cm2), (9, .int .i64 2), (10, .int .i64 (n2 : Int)), (11, .int .i64 (k : Int))]) (fun k => (om2, blk ([] ++ [sl (some c0) 0 (n0 + 70) cap0] ++ [sl (some c1) 0 (n1 + 70) cap1] ++ [sl (some c2) 0 (n2 + 70) cap2] ++ rm2) 22) :: (some c2, blk (u8s ((List.replicate n2 (BitVec.ofInt 8 (2 % 125))) ++ List.replicate 70 (BitVec.ofInt 8 (125 + 2 % 125))) ++ q2) 5) :: (some c1, blk (u8s ((List.replicate n1 (BitVec.ofInt 8 (1 % 125))) ++ List.replicate 70 (BitVec.ofInt 8 (125 + 1 % 125))) ++ q1) 5) :: (some c0, blk (u8s ((List.replicate n0 (BitVec.ofInt 8 (0 % 125))) ++ List.replicate 70 (BitVec.ofInt 8 (125 + 0 % 125))) ++ q0) 5) :: (o2, blk (u8s (List.replicate n2 (BitVec.ofInt 8 (2 % 125)))) 5) :: (o1, blk (u8s (List.replicate n1 (BitVec.ofInt 8 (1 % 125)))) 5) :: (o0, blk (u8s (List.replicate n0 (BitVec.ofInt 8 (0 % 125)))) 5) :: (some bl, blk [sl o0 0 n0 n0, sl o1 0 n1 n1, sl o2 0 n2 n2] 22) :: M) (fun k => n2 + 70 - k) 0 (by omega) ⟨rfl, rfl, rfl, rfl, rfl, trivial⟩ (fun _ m => m) ?_
  intro k hk
  (repeat (first | refine CW.seq ?_ | refine QW.then_n ?_ | refine CW.block ?_ | refine CW.ret ?_ | refine CW.skip ?_ | refine CW.exit ?_ | refine QW.then_x ?_ | refine QW.then_r ?_ | refine QW.block_n ?_ | refine QW.block_xe ?_ | refine QW.block_xn rfl ?_ | refine QW.block_r ?_))
  refine CW.region ?_
  refine OW.rv (RV.move rfl) rfl ?_
  refine OW.rv (RV.move rfl) rfl ?_
  refine OW.rv (RV.move rfl) rfl ?_
  (first | refine OW.rv (RV.idx_o _ rfl rfl rfl rfl rfl (by first | rfl | assumption) (by omega)) rfl ?_ | refine OW.rv (RV.idx_r _ rfl rfl rfl rfl rfl (by first | rfl | assumption) (by omega)) rfl ?_ | refine OW.rv (RV.idx_oz rfl rfl (by omega) rfl rfl (by first | rfl | assumption) (by omega)) rfl ?_ | refine OW.rv (RV.idx_rz rfl rfl (by omega) rfl rfl (by first | rfl | assumption) (by omega)) rfl ?_)
  (first | refine OW.rv (RV.load rfl (by repeat (first | exact List.Mem.head _ | refine List.Mem.tail _ ?_)) (by first | rfl | assumption) rfl rfl (by first | rfl | assumption)) rfl ?_ | refine OW.rv (RV.load_at rfl rfl rfl (by repeat (first | assumption | refine Mem.Says.cons ?_))) rfl ?_)
  refine OW.rv (RV.len rfl rfl) rfl ?_
  refine OW.rv (RV.lss rfl rfl) rfl ?_
  refine OW.nil ?_
  (repeat (first | refine CW.seq ?_ | refine QW.then_n ?_ | refine CW.block ?_ | refine CW.ret ?_ | refine CW.skip ?_ | refine CW.exit ?_ | refine QW.then_x ?_ | refine QW.then_r ?_ | refine QW.block_n ?_ | refine QW.block_xe ?_ | refine QW.block_xn rfl ?_ | refine QW.block_r ?_))
  (first | refine CW.cond_t rfl ?_ | refine CW.cond_f rfl ?_ | refine CW.cond_p rfl (fun hlt => ?_) (fun hlt => ?_) | refine CW.cond_np rfl (fun hlt => ?_) (fun hlt => ?_) | refine CW.cond rfl (fun hlt => ?_) (fun hlt => ?_))
  · by_cases hkn : k < n2
    · have hs : o2.isSome = true := by
        cases o2 with
        | none => have := hn2 rfl; omega
        | some b => rfl
      have g1 : (u8s (List.replicate n2 (BitVec.ofInt 8 (2 % 125))))[0 + k]? = some (U8 (BitVec.ofInt 8 (2 % 125))) := by simp [u8s, hkn]
      have g2 : (u8s ((List.replicate n2 (BitVec.ofInt 8 (2 % 125))) ++ List.replicate 70 (BitVec.ofInt 8 (125 + 2 % 125))) ++ q2)[0 + k]? = some (U8 (BitVec.ofInt 8 (2 % 125))) := by
        rw [Nat.zero_add, List.getElem?_append_left (by simp; omega)]
        simp only [u8s, List.getElem?_map]
        rw [List.getElem?_append_left (by simpa using hkn)]
        simp [hkn]
      (repeat (first | refine CW.seq ?_ | refine QW.then_n ?_ | refine CW.block ?_ | refine CW.ret ?_ | refine CW.skip ?_ | refine CW.exit ?_ | refine QW.then_x ?_ | refine QW.then_r ?_ | refine QW.block_n ?_ | refine QW.block_xe ?_ | refine QW.block_xn rfl ?_ | refine QW.block_r ?_))
      refine CW.region ?_
      refine OW.rv (RV.move rfl) rfl ?_
      refine OW.rv (RV.move rfl) rfl ?_
      (first | refine OW.rv (RV.lss_t rfl rfl (by omega)) rfl ?_ | refine OW.rv (RV.lss_f rfl rfl (by omega)) rfl ?_ | refine OW.rv (RV.lss rfl rfl) rfl ?_)
      refine OW.rv (RV.move rfl) rfl ?_
      (first | (refine OW.want rfl ?_; refine OW.rv (RV.move rfl) rfl ?_) | refine OW.skip rfl rfl rfl ?_)
      (first | (refine OW.want rfl ?_; refine OW.rv (RV.move rfl) rfl ?_) | refine OW.skip rfl rfl rfl ?_)
      (first | (refine OW.want rfl ?_; (first | refine OW.rv (RV.idx_o _ rfl rfl rfl rfl rfl (by first | rfl | assumption) (by omega)) rfl ?_ | refine OW.rv (RV.idx_r _ rfl rfl rfl rfl rfl (by first | rfl | assumption) (by omega)) rfl ?_ | refine OW.rv (RV.idx_oz rfl rfl (by omega) rfl rfl (by first | rfl | assumption) (by omega)) rfl ?_ | refine OW.rv (RV.idx_rz rfl rfl (by omega) rfl rfl (by first | rfl | assumption) (by omega)) rfl ?_)) | refine OW.skip rfl rfl rfl ?_)
      (first | (refine OW.want rfl ?_; (first | refine OW.rv (RV.load rfl (by repeat (first | exact List.Mem.head _ | refine List.Mem.tail _ ?_)) (by first | rfl | assumption) rfl rfl (by first | rfl | assumption)) rfl ?_ | refine OW.rv (RV.load_at rfl rfl rfl (by repeat (first | assumption | refine Mem.Says.cons ?_))) rfl ?_)) | refine OW.skip rfl rfl rfl ?_)
      (first | (refine OW.want rfl ?_; refine OW.rv (RV.move rfl) rfl ?_) | refine OW.skip rfl rfl rfl ?_)
      (first | (refine OW.want rfl ?_; (first | refine OW.rv (RV.idx_o _ rfl rfl rfl rfl rfl (by first | rfl | assumption) (by omega)) rfl ?_ | refine OW.rv (RV.idx_r _ rfl rfl rfl rfl rfl (by first | rfl | assumption) (by omega)) rfl ?_ | refine OW.rv (RV.idx_oz rfl rfl (by omega) rfl rfl (by first | rfl | assumption) (by omega)) rfl ?_ | refine OW.rv (RV.idx_rz rfl rfl (by omega) rfl rfl (by first | rfl | assumption) (by omega)) rfl ?_)) | refine OW.skip rfl rfl rfl ?_)
      (first | (refine OW.want rfl ?_; (first | refine OW.rv (RV.load rfl (by repeat (first | exact List.Mem.head _ | refine List.Mem.tail _ ?_)) (by first | rfl | assumption) rfl rfl (by first | rfl | assumption)) rfl ?_ | refine OW.rv (RV.load_at rfl rfl rfl (by repeat (first | assumption | refine Mem.Says.cons ?_))) rfl ?_)) | refine OW.skip rfl rfl rfl ?_)
      (first | (refine OW.want rfl ?_; refine OW.rv (RV.move rfl) rfl ?_) | refine OW.skip rfl rfl rfl ?_)
      (first | (refine OW.want rfl ?_; (first | refine OW.rv (RV.rem rfl rfl (by omega) (by omega)) rfl ?_ | refine OW.rv (RV.trem rfl rfl (by omega)) rfl ?_)) | refine OW.skip rfl rfl rfl ?_)
      (first | (refine OW.want rfl ?_; refine OW.rv (RV.conv_i8 rfl rfl rfl) rfl ?_) | refine OW.skip rfl rfl rfl ?_)
      (first | (refine OW.want rfl ?_; (first | refine OW.rv (RV.neq8_t rfl (by first | rfl | exact lit8 _ rfl) rfl (by first | rfl | exact lit8 _ rfl) (by first | rfl | assumption | decide)) rfl ?_ | refine OW.rv (RV.neq8_f rfl (by first | rfl | exact lit8 _ rfl) rfl (by first | rfl | exact lit8 _ rfl) (by first | rfl | assumption | decide)) rfl ?_ | refine OW.rv (RV.neq8 rfl (by first | rfl | exact lit8 _ rfl) rfl (by first | rfl | exact lit8 _ rfl)) rfl ?_)) | refine OW.skip rfl rfl rfl ?_)
      (first | (refine OW.want rfl ?_; refine OW.rv (RV.move rfl) rfl ?_) | refine OW.skip rfl rfl rfl ?_)
      (first | (refine OW.want rfl ?_; refine OW.rv (RV.move rfl) rfl ?_) | refine OW.skip rfl rfl rfl ?_)
      (first | (refine OW.want rfl ?_; refine OW.rv (RV.move rfl) rfl ?_) | refine OW.skip rfl rfl rfl ?_)
      (first | (refine OW.want rfl ?_; (first | refine OW.rv (RV.idx_o _ rfl rfl rfl rfl rfl (by first | rfl | assumption) (by omega)) rfl ?_ | refine OW.rv (RV.idx_r _ rfl rfl rfl rfl rfl (by first | rfl | assumption) (by omega)) rfl ?_ | refine OW.rv (RV.idx_oz rfl rfl (by omega) rfl rfl (by first | rfl | assumption) (by omega)) rfl ?_ | refine OW.rv (RV.idx_rz rfl rfl (by omega) rfl rfl (by first | rfl | assumption) (by omega)) rfl ?_)) | refine OW.skip rfl rfl rfl ?_)
      (first | (refine OW.want rfl ?_; (first | refine OW.rv (RV.load rfl (by repeat (first | exact List.Mem.head _ | refine List.Mem.tail _ ?_)) (by first | rfl | assumption) rfl rfl (by first | rfl | assumption)) rfl ?_ | refine OW.rv (RV.load_at rfl rfl rfl (by repeat (first | assumption | refine Mem.Says.cons ?_))) rfl ?_)) | refine OW.skip rfl rfl rfl ?_)
      (first | (refine OW.want rfl ?_; refine OW.rv (RV.move rfl) rfl ?_) | refine OW.skip rfl rfl rfl ?_)
      (first | (refine OW.want rfl ?_; (first | refine OW.rv (RV.idx_o _ rfl rfl rfl rfl rfl (by first | rfl | assumption) (by omega)) rfl ?_ | refine OW.rv (RV.idx_r _ rfl rfl rfl rfl rfl (by first | rfl | assumption) (by omega)) rfl ?_ | refine OW.rv (RV.idx_oz rfl rfl (by omega) rfl rfl (by first | rfl | assumption) (by omega)) rfl ?_ | refine OW.rv (RV.idx_rz rfl rfl (by omega) rfl rfl (by first | rfl | assumption) (by omega)) rfl ?_)) | refine OW.skip rfl rfl rfl ?_)
      (first | (refine OW.want rfl ?_; (first | refine OW.rv (RV.load rfl (by repeat (first | exact List.Mem.head _ | refine List.Mem.tail _ ?_)) (by first | rfl | assumption) rfl rfl (by first | rfl | assumption)) rfl ?_ | refine OW.rv (RV.load_at rfl rfl rfl (by repeat (first | assumption | refine Mem.Says.cons ?_))) rfl ?_)) | refine OW.skip rfl rfl rfl ?_)
      (first | (refine OW.want rfl ?_; refine OW.rv (RV.move rfl) rfl ?_) | refine OW.skip rfl rfl rfl ?_)
      (first | (refine OW.want rfl ?_; (first | refine OW.rv (RV.rem rfl rfl (by omega) (by omega)) rfl ?_ | refine OW.rv (RV.trem rfl rfl (by omega)) rfl ?_)) | refine OW.skip rfl rfl rfl ?_)
      (first | (refine OW.want rfl ?_; refine OW.rv (RV.conv_i8 rfl rfl rfl) rfl ?_) | refine OW.skip rfl rfl rfl ?_)
      (first | (refine OW.want rfl ?_; (first | refine OW.rv (RV.neq8_t rfl (by first | rfl | exact lit8 _ rfl) rfl (by first | rfl | exact lit8 _ rfl) (by first | rfl | assumption | decide)) rfl ?_ | refine OW.rv (RV.neq8_f rfl (by first | rfl | exact lit8 _ rfl) rfl (by first | rfl | exact lit8 _ rfl) (by first | rfl | assumption | decide)) rfl ?_ | refine OW.rv (RV.neq8 rfl (by first | rfl | exact lit8 _ rfl) rfl (by first | rfl | exact lit8 _ rfl)) rfl ?_)) | refine OW.skip rfl rfl rfl ?_)
      (first | (refine OW.want rfl ?_; (first | refine OW.rv (RV.pick_t rfl rfl rfl) rfl ?_ | refine OW.rv (RV.pick_f rfl rfl rfl) rfl ?_ | refine OW.rv (RV.pick rfl rfl rfl) rfl ?_)) | refine OW.skip rfl rfl rfl ?_)
      (first | refine OW.rv (RV.pick_t rfl rfl rfl) rfl ?_ | refine OW.rv (RV.pick_f rfl rfl rfl) rfl ?_ | refine OW.rv (RV.pick rfl rfl rfl) rfl ?_)
      refine OW.rv (RV.move rfl) rfl ?_
      (first | (refine OW.want rfl ?_; refine OW.rv (RV.move rfl) rfl ?_) | refine OW.skip rfl rfl rfl ?_)
      (first | (refine OW.want rfl ?_; refine OW.rv (RV.move rfl) rfl ?_) | refine OW.skip rfl rfl rfl ?_)
      (first | (refine OW.want rfl ?_; (first | refine OW.rv (RV.geq_t rfl rfl (by omega)) rfl ?_ | refine OW.rv (RV.geq_f rfl rfl (by omega)) rfl ?_ | refine OW.rv (RV.geq rfl rfl) rfl ?_)) | refine OW.skip rfl rfl rfl ?_)
      (first | (refine OW.want rfl ?_; refine OW.rv (RV.move rfl) rfl ?_) | refine OW.skip rfl rfl rfl ?_)
      (first | (refine OW.want rfl ?_; refine OW.rv (RV.move rfl) rfl ?_) | refine OW.skip rfl rfl rfl ?_)
      (first | (refine OW.want rfl ?_; refine OW.rv (RV.move rfl) rfl ?_) | refine OW.skip rfl rfl rfl ?_)
      (first | (refine OW.want rfl ?_; (first | refine OW.rv (RV.idx_o _ rfl rfl rfl rfl rfl (by first | rfl | assumption) (by omega)) rfl ?_ | refine OW.rv (RV.idx_r _ rfl rfl rfl rfl rfl (by first | rfl | assumption) (by omega)) rfl ?_ | refine OW.rv (RV.idx_oz rfl rfl (by omega) rfl rfl (by first | rfl | assumption) (by omega)) rfl ?_ | refine OW.rv (RV.idx_rz rfl rfl (by omega) rfl rfl (by first | rfl | assumption) (by omega)) rfl ?_)) | refine OW.skip rfl rfl rfl ?_)
      (first | (refine OW.want rfl ?_; (first | refine OW.rv (RV.load rfl (by repeat (first | exact List.Mem.head _ | refine List.Mem.tail _ ?_)) (by first | rfl | assumption) rfl rfl (by first | rfl | assumption)) rfl ?_ | refine OW.rv (RV.load_at rfl rfl rfl (by repeat (first | assumption | refine Mem.Says.cons ?_))) rfl ?_)) | refine OW.skip rfl rfl rfl ?_)
      (first | (refine OW.want rfl ?_; refine OW.rv (RV.move rfl) rfl ?_) | refine OW.skip rfl rfl rfl ?_)
      (first | (refine OW.want rfl ?_; (first | refine OW.rv (RV.idx_o _ rfl rfl rfl rfl rfl (by first | rfl | assumption) (by omega)) rfl ?_ | refine OW.rv (RV.idx_r _ rfl rfl rfl rfl rfl (by first | rfl | assumption) (by omega)) rfl ?_ | refine OW.rv (RV.idx_oz rfl rfl (by omega) rfl rfl (by first | rfl | assumption) (by omega)) rfl ?_ | refine OW.rv (RV.idx_rz rfl rfl (by omega) rfl rfl (by first | rfl | assumption) (by omega)) rfl ?_)) | refine OW.skip rfl rfl rfl ?_)
      (first | (refine OW.want rfl ?_; (first | refine OW.rv (RV.load rfl (by repeat (first | exact List.Mem.head _ | refine List.Mem.tail _ ?_)) (by first | rfl | assumption) rfl rfl (by first | rfl | assumption)) rfl ?_ | refine OW.rv (RV.load_at rfl rfl rfl (by repeat (first | assumption | refine Mem.Says.cons ?_))) rfl ?_)) | refine OW.skip rfl rfl rfl ?_)
      (first | (refine OW.want rfl ?_; refine OW.rv (RV.move rfl) rfl ?_) | refine OW.skip rfl rfl rfl ?_)
      (first | (refine OW.want rfl ?_; (first | refine OW.rv (RV.rem rfl rfl (by omega) (by omega)) rfl ?_ | refine OW.rv (RV.trem rfl rfl (by omega)) rfl ?_)) | refine OW.skip rfl rfl rfl ?_)
      (first | (refine OW.want rfl ?_; refine OW.rv (RV.add rfl rfl (by omega)) rfl ?_) | refine OW.skip rfl rfl rfl ?_)
      (first | (refine OW.want rfl ?_; refine OW.rv (RV.conv_i8 rfl rfl rfl) rfl ?_) | refine OW.skip rfl rfl rfl ?_)
      (first | (refine OW.want rfl ?_; (first | refine OW.rv (RV.neq8_t rfl (by first | rfl | exact lit8 _ rfl) rfl (by first | rfl | exact lit8 _ rfl) (by first | rfl | assumption | decide)) rfl ?_ | refine OW.rv (RV.neq8_f rfl (by first | rfl | exact lit8 _ rfl) rfl (by first | rfl | exact lit8 _ rfl) (by first | rfl | assumption | decide)) rfl ?_ | refine OW.rv (RV.neq8 rfl (by first | rfl | exact lit8 _ rfl) rfl (by first | rfl | exact lit8 _ rfl)) rfl ?_)) | refine OW.skip rfl rfl rfl ?_)
      (first | (refine OW.want rfl ?_; (first | refine OW.rv (RV.pick_t rfl rfl rfl) rfl ?_ | refine OW.rv (RV.pick_f rfl rfl rfl) rfl ?_ | refine OW.rv (RV.pick rfl rfl rfl) rfl ?_)) | refine OW.skip rfl rfl rfl ?_)
      (first | refine OW.rv (RV.pick_t rfl rfl rfl) rfl ?_ | refine OW.rv (RV.pick_f rfl rfl rfl) rfl ?_ | refine OW.rv (RV.pick rfl rfl rfl) rfl ?_)
      refine OW.nil ?_
      (repeat (first | refine CW.seq ?_ | refine QW.then_n ?_ | refine CW.block ?_ | refine CW.ret ?_ | refine CW.skip ?_ | refine CW.exit ?_ | refine QW.then_x ?_ | refine QW.then_r ?_ | refine QW.block_n ?_ | refine QW.block_xe ?_ | refine QW.block_xn rfl ?_ | refine QW.block_r ?_))
      (first | refine CW.cond_t rfl ?_ | refine CW.cond_f rfl ?_ | refine CW.cond_p rfl (fun hq => ?_) (fun hq => ?_) | refine CW.cond_np rfl (fun hq => ?_) (fun hq => ?_) | refine CW.cond rfl (fun hq => ?_) (fun hq => ?_))
      (repeat (first | refine CW.seq ?_ | refine QW.then_n ?_ | refine CW.block ?_ | refine CW.ret ?_ | refine CW.skip ?_ | refine CW.exit ?_ | refine QW.then_x ?_ | refine QW.then_r ?_ | refine QW.block_n ?_ | refine QW.block_xe ?_ | refine QW.block_xn rfl ?_ | refine QW.block_r ?_))
      refine CW.region ?_
      refine OW.rv (RV.move rfl) rfl ?_
      refine OW.rv (RV.add rfl rfl (by omega)) rfl ?_
      refine OW.rv (RV.assign rfl) rfl ?_
      refine OW.nil ?_
      (repeat (first | refine CW.seq ?_ | refine QW.then_n ?_ | refine CW.block ?_ | refine CW.ret ?_ | refine CW.skip ?_ | refine CW.exit ?_ | refine QW.then_x ?_ | refine QW.then_r ?_ | refine QW.block_n ?_ | refine QW.block_xe ?_ | refine QW.block_xn rfl ?_ | refine QW.block_r ?_))
      exact QW.again (k + 1) (by omega) (by omega) ⟨rfl, rfl, rfl, rfl, rfl, trivial⟩ (fun _ m => m)
    · have g2 : (u8s ((List.replicate n2 (BitVec.ofInt 8 (2 % 125))) ++ List.replicate 70 (BitVec.ofInt 8 (125 + 2 % 125))) ++ q2)[0 + k]? = some (U8 (BitVec.ofInt 8 (125 + 2 % 125))) := by
        rw [Nat.zero_add, List.getElem?_append_left (by simp; omega)]
        simp only [u8s, List.getElem?_map]
        rw [List.getElem?_append_right (by simp; omega)]
        rw [List.getElem?_replicate, List.length_replicate, if_pos (by omega)]
        rfl
      (repeat (first | refine CW.seq ?_ | refine QW.then_n ?_ | refine CW.block ?_ | refine CW.ret ?_ | refine CW.skip ?_ | refine CW.exit ?_ | refine QW.then_x ?_ | refine QW.then_r ?_ | refine QW.block_n ?_ | refine QW.block_xe ?_ | refine QW.block_xn rfl ?_ | refine QW.block_r ?_))
      refine CW.region ?_
      refine OW.rv (RV.move rfl) rfl ?_
      refine OW.rv (RV.move rfl) rfl ?_
      (first | refine OW.rv (RV.lss_t rfl rfl (by omega)) rfl ?_ | refine OW.rv (RV.lss_f rfl rfl (by omega)) rfl ?_ | refine OW.rv (RV.lss rfl rfl) rfl ?_)
      refine OW.rv (RV.move rfl) rfl ?_
      (first | (refine OW.want rfl ?_; refine OW.rv (RV.move rfl) rfl ?_) | refine OW.skip rfl rfl rfl ?_)
      (first | (refine OW.want rfl ?_; refine OW.rv (RV.move rfl) rfl ?_) | refine OW.skip rfl rfl rfl ?_)
      (first | (refine OW.want rfl ?_; (first | refine OW.rv (RV.idx_o _ rfl rfl rfl rfl rfl (by first | rfl | assumption) (by omega)) rfl ?_ | refine OW.rv (RV.idx_r _ rfl rfl rfl rfl rfl (by first | rfl | assumption) (by omega)) rfl ?_ | refine OW.rv (RV.idx_oz rfl rfl (by omega) rfl rfl (by first | rfl | assumption) (by omega)) rfl ?_ | refine OW.rv (RV.idx_rz rfl rfl (by omega) rfl rfl (by first | rfl | assumption) (by omega)) rfl ?_)) | refine OW.skip rfl rfl rfl ?_)
      (first | (refine OW.want rfl ?_; (first | refine OW.rv (RV.load rfl (by repeat (first | exact List.Mem.head _ | refine List.Mem.tail _ ?_)) (by first | rfl | assumption) rfl rfl (by first | rfl | assumption)) rfl ?_ | refine OW.rv (RV.load_at rfl rfl rfl (by repeat (first | assumption | refine Mem.Says.cons ?_))) rfl ?_)) | refine OW.skip rfl rfl rfl ?_)
      (first | (refine OW.want rfl ?_; refine OW.rv (RV.move rfl) rfl ?_) | refine OW.skip rfl rfl rfl ?_)
      (first | (refine OW.want rfl ?_; (first | refine OW.rv (RV.idx_o _ rfl rfl rfl rfl rfl (by first | rfl | assumption) (by omega)) rfl ?_ | refine OW.rv (RV.idx_r _ rfl rfl rfl rfl rfl (by first | rfl | assumption) (by omega)) rfl ?_ | refine OW.rv (RV.idx_oz rfl rfl (by omega) rfl rfl (by first | rfl | assumption) (by omega)) rfl ?_ | refine OW.rv (RV.idx_rz rfl rfl (by omega) rfl rfl (by first | rfl | assumption) (by omega)) rfl ?_)) | refine OW.skip rfl rfl rfl ?_)
      (first | (refine OW.want rfl ?_; (first | refine OW.rv (RV.load rfl (by repeat (first | exact List.Mem.head _ | refine List.Mem.tail _ ?_)) (by first | rfl | assumption) rfl rfl (by first | rfl | assumption)) rfl ?_ | refine OW.rv (RV.load_at rfl rfl rfl (by repeat (first | assumption | refine Mem.Says.cons ?_))) rfl ?_)) | refine OW.skip rfl rfl rfl ?_)
      (first | (refine OW.want rfl ?_; refine OW.rv (RV.move rfl) rfl ?_) | refine OW.skip rfl rfl rfl ?_)
      (first | (refine OW.want rfl ?_; (first | refine OW.rv (RV.rem rfl rfl (by omega) (by omega)) rfl ?_ | refine OW.rv (RV.trem rfl rfl (by omega)) rfl ?_)) | refine OW.skip rfl rfl rfl ?_)
      (first | (refine OW.want rfl ?_; refine OW.rv (RV.conv_i8 rfl rfl rfl) rfl ?_) | refine OW.skip rfl rfl rfl ?_)
      (first | (refine OW.want rfl ?_; (first | refine OW.rv (RV.neq8_t rfl (by first | rfl | exact lit8 _ rfl) rfl (by first | rfl | exact lit8 _ rfl) (by first | rfl | assumption | decide)) rfl ?_ | refine OW.rv (RV.neq8_f rfl (by first | rfl | exact lit8 _ rfl) rfl (by first | rfl | exact lit8 _ rfl) (by first | rfl | assumption | decide)) rfl ?_ | refine OW.rv (RV.neq8 rfl (by first | rfl | exact lit8 _ rfl) rfl (by first | rfl | exact lit8 _ rfl)) rfl ?_)) | refine OW.skip rfl rfl rfl ?_)
      (first | (refine OW.want rfl ?_; refine OW.rv (RV.move rfl) rfl ?_) | refine OW.skip rfl rfl rfl ?_)
      (first | (refine OW.want rfl ?_; refine OW.rv (RV.move rfl) rfl ?_) | refine OW.skip rfl rfl rfl ?_)
      (first | (refine OW.want rfl ?_; refine OW.rv (RV.move rfl) rfl ?_) | refine OW.skip rfl rfl rfl ?_)
      (first | (refine OW.want rfl ?_; (first | refine OW.rv (RV.idx_o _ rfl rfl rfl rfl rfl (by first | rfl | assumption) (by omega)) rfl ?_ | refine OW.rv (RV.idx_r _ rfl rfl rfl rfl rfl (by first | rfl | assumption) (by omega)) rfl ?_ | refine OW.rv (RV.idx_oz rfl rfl (by omega) rfl rfl (by first | rfl | assumption) (by omega)) rfl ?_ | refine OW.rv (RV.idx_rz rfl rfl (by omega) rfl rfl (by first | rfl | assumption) (by omega)) rfl ?_)) | refine OW.skip rfl rfl rfl ?_)
      (first | (refine OW.want rfl ?_; (first | refine OW.rv (RV.load rfl (by repeat (first | exact List.Mem.head _ | refine List.Mem.tail _ ?_)) (by first | rfl | assumption) rfl rfl (by first | rfl | assumption)) rfl ?_ | refine OW.rv (RV.load_at rfl rfl rfl (by repeat (first | assumption | refine Mem.Says.cons ?_))) rfl ?_)) | refine OW.skip rfl rfl rfl ?_)
      (first | (refine OW.want rfl ?_; refine OW.rv (RV.move rfl) rfl ?_) | refine OW.skip rfl rfl rfl ?_)
      (first | (refine OW.want rfl ?_; (first | refine OW.rv (RV.idx_o _ rfl rfl rfl rfl rfl (by first | rfl | assumption) (by omega)) rfl ?_ | refine OW.rv (RV.idx_r _ rfl rfl rfl rfl rfl (by first | rfl | assumption) (by omega)) rfl ?_ | refine OW.rv (RV.idx_oz rfl rfl (by omega) rfl rfl (by first | rfl | assumption) (by omega)) rfl ?_ | refine OW.rv (RV.idx_rz rfl rfl (by omega) rfl rfl (by first | rfl | assumption) (by omega)) rfl ?_)) | refine OW.skip rfl rfl rfl ?_)
      (first | (refine OW.want rfl ?_; (first | refine OW.rv (RV.load rfl (by repeat (first | exact List.Mem.head _ | refine List.Mem.tail _ ?_)) (by first | rfl | assumption) rfl rfl (by first | rfl | assumption)) rfl ?_ | refine OW.rv (RV.load_at rfl rfl rfl (by repeat (first | assumption | refine Mem.Says.cons ?_))) rfl ?_)) | refine OW.skip rfl rfl rfl ?_)
      (first | (refine OW.want rfl ?_; refine OW.rv (RV.move rfl) rfl ?_) | refine OW.skip rfl rfl rfl ?_)
      (first | (refine OW.want rfl ?_; (first | refine OW.rv (RV.rem rfl rfl (by omega) (by omega)) rfl ?_ | refine OW.rv (RV.trem rfl rfl (by omega)) rfl ?_)) | refine OW.skip rfl rfl rfl ?_)
      (first | (refine OW.want rfl ?_; refine OW.rv (RV.conv_i8 rfl rfl rfl) rfl ?_) | refine OW.skip rfl rfl rfl ?_)
      (first | (refine OW.want rfl ?_; (first | refine OW.rv (RV.neq8_t rfl (by first | rfl | exact lit8 _ rfl) rfl (by first | rfl | exact lit8 _ rfl) (by first | rfl | assumption | decide)) rfl ?_ | refine OW.rv (RV.neq8_f rfl (by first | rfl | exact lit8 _ rfl) rfl (by first | rfl | exact lit8 _ rfl) (by first | rfl | assumption | decide)) rfl ?_ | refine OW.rv (RV.neq8 rfl (by first | rfl | exact lit8 _ rfl) rfl (by first | rfl | exact lit8 _ rfl)) rfl ?_)) | refine OW.skip rfl rfl rfl ?_)
      (first | (refine OW.want rfl ?_; (first | refine OW.rv (RV.pick_t rfl rfl rfl) rfl ?_ | refine OW.rv (RV.pick_f rfl rfl rfl) rfl ?_ | refine OW.rv (RV.pick rfl rfl rfl) rfl ?_)) | refine OW.skip rfl rfl rfl ?_)
      (first | refine OW.rv (RV.pick_t rfl rfl rfl) rfl ?_ | refine OW.rv (RV.pick_f rfl rfl rfl) rfl ?_ | refine OW.rv (RV.pick rfl rfl rfl) rfl ?_)
      refine OW.rv (RV.move rfl) rfl ?_
      (first | (refine OW.want rfl ?_; refine OW.rv (RV.move rfl) rfl ?_) | refine OW.skip rfl rfl rfl ?_)
      (first | (refine OW.want rfl ?_; refine OW.rv (RV.move rfl) rfl ?_) | refine OW.skip rfl rfl rfl ?_)
      (first | (refine OW.want rfl ?_; (first | refine OW.rv (RV.geq_t rfl rfl (by omega)) rfl ?_ | refine OW.rv (RV.geq_f rfl rfl (by omega)) rfl ?_ | refine OW.rv (RV.geq rfl rfl) rfl ?_)) | refine OW.skip rfl rfl rfl ?_)
      (first | (refine OW.want rfl ?_; refine OW.rv (RV.move rfl) rfl ?_) | refine OW.skip rfl rfl rfl ?_)
      (first | (refine OW.want rfl ?_; refine OW.rv (RV.move rfl) rfl ?_) | refine OW.skip rfl rfl rfl ?_)
      (first | (refine OW.want rfl ?_; refine OW.rv (RV.move rfl) rfl ?_) | refine OW.skip rfl rfl rfl ?_)
      (first | (refine OW.want rfl ?_; (first | refine OW.rv (RV.idx_o _ rfl rfl rfl rfl rfl (by first | rfl | assumption) (by omega)) rfl ?_ | refine OW.rv (RV.idx_r _ rfl rfl rfl rfl rfl (by first | rfl | assumption) (by omega)) rfl ?_ | refine OW.rv (RV.idx_oz rfl rfl (by omega) rfl rfl (by first | rfl | assumption) (by omega)) rfl ?_ | refine OW.rv (RV.idx_rz rfl rfl (by omega) rfl rfl (by first | rfl | assumption) (by omega)) rfl ?_)) | refine OW.skip rfl rfl rfl ?_)
      (first | (refine OW.want rfl ?_; (first | refine OW.rv (RV.load rfl (by repeat (first | exact List.Mem.head _ | refine List.Mem.tail _ ?_)) (by first | rfl | assumption) rfl rfl (by first | rfl | assumption)) rfl ?_ | refine OW.rv (RV.load_at rfl rfl rfl (by repeat (first | assumption | refine Mem.Says.cons ?_))) rfl ?_)) | refine OW.skip rfl rfl rfl ?_)
      (first | (refine OW.want rfl ?_; refine OW.rv (RV.move rfl) rfl ?_) | refine OW.skip rfl rfl rfl ?_)
      (first | (refine OW.want rfl ?_; (first | refine OW.rv (RV.idx_o _ rfl rfl rfl rfl rfl (by first | rfl | assumption) (by omega)) rfl ?_ | refine OW.rv (RV.idx_r _ rfl rfl rfl rfl rfl (by first | rfl | assumption) (by omega)) rfl ?_ | refine OW.rv (RV.idx_oz rfl rfl (by omega) rfl rfl (by first | rfl | assumption) (by omega)) rfl ?_ | refine OW.rv (RV.idx_rz rfl rfl (by omega) rfl rfl (by first | rfl | assumption) (by omega)) rfl ?_)) | refine OW.skip rfl rfl rfl ?_)
      (first | (refine OW.want rfl ?_; (first | refine OW.rv (RV.load rfl (by repeat (first | exact List.Mem.head _ | refine List.Mem.tail _ ?_)) (by first | rfl | assumption) rfl rfl (by first | rfl | assumption)) rfl ?_ | refine OW.rv (RV.load_at rfl rfl rfl (by repeat (first | assumption | refine Mem.Says.cons ?_))) rfl ?_)) | refine OW.skip rfl rfl rfl ?_)
      (first | (refine OW.want rfl ?_; refine OW.rv (RV.move rfl) rfl ?_) | refine OW.skip rfl rfl rfl ?_)
      (first | (refine OW.want rfl ?_; (first | refine OW.rv (RV.rem rfl rfl (by omega) (by omega)) rfl ?_ | refine OW.rv (RV.trem rfl rfl (by omega)) rfl ?_)) | refine OW.skip rfl rfl rfl ?_)
      (first | (refine OW.want rfl ?_; refine OW.rv (RV.add rfl rfl (by omega)) rfl ?_) | refine OW.skip rfl rfl rfl ?_)
      (first | (refine OW.want rfl ?_; refine OW.rv (RV.conv_i8 rfl rfl rfl) rfl ?_) | refine OW.skip rfl rfl rfl ?_)
      (first | (refine OW.want rfl ?_; (first | refine OW.rv (RV.neq8_t rfl (by first | rfl | exact lit8 _ rfl) rfl (by first | rfl | exact lit8 _ rfl) (by first | rfl | assumption | decide)) rfl ?_ | refine OW.rv (RV.neq8_f rfl (by first | rfl | exact lit8 _ rfl) rfl (by first | rfl | exact lit8 _ rfl) (by first | rfl | assumption | decide)) rfl ?_ | refine OW.rv (RV.neq8 rfl (by first | rfl | exact lit8 _ rfl) rfl (by first | rfl | exact lit8 _ rfl)) rfl ?_)) | refine OW.skip rfl rfl rfl ?_)
      (first | (refine OW.want rfl ?_; (first | refine OW.rv (RV.pick_t rfl rfl rfl) rfl ?_ | refine OW.rv (RV.pick_f rfl rfl rfl) rfl ?_ | refine OW.rv (RV.pick rfl rfl rfl) rfl ?_)) | refine OW.skip rfl rfl rfl ?_)
      (first | refine OW.rv (RV.pick_t rfl rfl rfl) rfl ?_ | refine OW.rv (RV.pick_f rfl rfl rfl) rfl ?_ | refine OW.rv (RV.pick rfl rfl rfl) rfl ?_)
      refine OW.nil ?_
      (repeat (first | refine CW.seq ?_ | refine QW.then_n ?_ | refine CW.block ?_ | refine CW.ret ?_ | refine CW.skip ?_ | refine CW.exit ?_ | refine QW.then_x ?_ | refine QW.then_r ?_ | refine QW.block_n ?_ | refine QW.block_xe ?_ | refine QW.block_xn rfl ?_ | refine QW.block_r ?_))
      (first | refine CW.cond_t rfl ?_ | refine CW.cond_f rfl ?_ | refine CW.cond_p rfl (fun hq => ?_) (fun hq => ?_) | refine CW.cond_np rfl (fun hq => ?_) (fun hq => ?_) | refine CW.cond rfl (fun hq => ?_) (fun hq => ?_))
      (repeat (first | refine CW.seq ?_ | refine QW.then_n ?_ | refine CW.block ?_ | refine CW.ret ?_ | refine CW.skip ?_ | refine CW.exit ?_ | refine QW.then_x ?_ | refine QW.then_r ?_ | refine QW.block_n ?_ | refine QW.block_xe ?_ | refine QW.block_xn rfl ?_ | refine QW.block_r ?_))
      refine CW.region ?_
      refine OW.rv (RV.move rfl) rfl ?_
      refine OW.rv (RV.add rfl rfl (by omega)) rfl ?_
      refine OW.rv (RV.assign rfl) rfl ?_
      refine OW.nil ?_
      (repeat (first | refine CW.seq ?_ | refine QW.then_n ?_ | refine CW.block ?_ | refine CW.ret ?_ | refine CW.skip ?_ | refine CW.exit ?_ | refine QW.then_x ?_ | refine QW.then_r ?_ | refine QW.block_n ?_ | refine QW.block_xe ?_ | refine QW.block_xn rfl ?_ | refine QW.block_r ?_))
      exact QW.again (k + 1) (by omega) (by omega) ⟨rfl, rfl, rfl, rfl, rfl, trivial⟩ (fun _ m => m)
  (repeat (first | refine CW.seq ?_ | refine QW.then_n ?_ | refine CW.block ?_ | refine CW.ret ?_ | refine CW.skip ?_ | refine CW.exit ?_ | refine QW.then_x ?_ | refine QW.then_r ?_ | refine QW.block_n ?_ | refine QW.block_xe ?_ | refine QW.block_xn rfl ?_ | refine QW.block_r ?_))
  refine CW.region ?_
  refine OW.rv (RV.move rfl) rfl ?_
  refine OW.rv (RV.add rfl rfl (by omega)) rfl ?_
  refine OW.rv (RV.assign rfl) rfl ?_
  refine OW.nil ?_
  (repeat (first | refine CW.seq ?_ | refine QW.then_n ?_ | refine CW.block ?_ | refine CW.ret ?_ | refine CW.skip ?_ | refine CW.exit ?_ | refine QW.then_x ?_ | refine QW.then_r ?_ | refine QW.block_n ?_ | refine QW.block_xe ?_ | refine QW.block_xn rfl ?_ | refine QW.block_r ?_))
  refine QW.then_k ?_
  clear hk hlt
  refine RW.state (L' := [(0, sl (some bl) 0 3 3), (5, sl om2 0 3 cm2), (9, .int .i64 3)]) ⟨rfl, rfl, rfl, trivial⟩ (fun _ m => m) ?_
  clear k
  refine RW.succ ?_
  (repeat (first | refine CW.seq ?_ | refine QW.then_n ?_ | refine CW.block ?_ | refine CW.ret ?_ | refine CW.skip ?_ | refine CW.exit ?_ | refine QW.then_x ?_ | refine QW.then_r ?_ | refine QW.block_n ?_ | refine QW.block_xe ?_ | refine QW.block_xn rfl ?_ | refine QW.block_r ?_))
  refine CW.region ?_
  refine OW.rv (RV.move rfl) rfl ?_
  refine OW.rv (RV.move rfl) rfl ?_
  refine OW.rv (RV.len rfl rfl) rfl ?_
  (first | refine OW.rv (RV.lss_t rfl rfl (by omega)) rfl ?_ | refine OW.rv (RV.lss_f rfl rfl (by omega)) rfl ?_ | refine OW.rv (RV.lss rfl rfl) rfl ?_)
  refine OW.nil ?_
  (repeat (first | refine CW.seq ?_ | refine QW.then_n ?_ | refine CW.block ?_ | refine CW.ret ?_ | refine CW.skip ?_ | refine CW.exit ?_ | refine QW.then_x ?_ | refine QW.then_r ?_ | refine QW.block_n ?_ | refine QW.block_xe ?_ | refine QW.block_xn rfl ?_ | refine QW.block_r ?_))
  (first | refine CW.cond_t rfl ?_ | refine CW.cond_f rfl ?_ | refine CW.cond_p rfl (fun h => ?_) (fun h => ?_) | refine CW.cond_np rfl (fun h => ?_) (fun h => ?_) | refine CW.cond rfl (fun h => ?_) (fun h => ?_))
  (repeat (first | refine CW.seq ?_ | refine QW.then_n ?_ | refine CW.block ?_ | refine CW.ret ?_ | refine CW.skip ?_ | refine CW.exit ?_ | refine QW.then_x ?_ | refine QW.then_r ?_ | refine QW.block_n ?_ | refine QW.block_xe ?_ | refine QW.block_xn rfl ?_ | refine QW.block_r ?_))
  refine CW.region ?_
  refine OW.rv (RV.assign rfl) rfl ?_
  refine OW.nil ?_
  (repeat (first | refine CW.seq ?_ | refine QW.then_n ?_ | refine CW.block ?_ | refine CW.ret ?_ | refine CW.skip ?_ | refine CW.exit ?_ | refine QW.then_x ?_ | refine QW.then_r ?_ | refine QW.block_n ?_ | refine QW.block_xe ?_ | refine QW.block_xn rfl ?_ | refine QW.block_r ?_))
  exact QW.ret1 rfl () trivial rfl (fun _ m => m.tail.tail.tail.tail.tail.tail.tail.tail)
end Go.Fw.Try
