/- Part of a proof: rules that its law uses. -/
import Derived.Test.YtgonajfngmeanaaDoorShaC
namespace Go.Fw.Tryd
open Go Go.Proofs
set_option maxRecDepth 100000
set_option linter.unusedVariables false
attribute [local irreducible] wTo
theorem word_does (w0 : World) (M : List Ent) (A : Option Addr) (ca : Nat) (bs : List (BitVec 8)) (hA : Mem.Says w0 M (fun w => Rd w A (u8s bs))) (hl : bs.length = 64) (i : Nat) (hi : i < 16) :
    Does Tryd.prog 60 [.slice A 64 ca, .int .i64 (4 * (i : Int))] w0 M (τ := Unit) (fun _ => True) (fun _ => U32 (pw bs i 4)) (fun _ => M) := by
  refine Does.of_mem fun w1 m1 => ?_
  have sA : A.isSome = true := Rd.someOf (f := U8) (hA w1 m1) (i := 0) (by omega)
  have lt : ∀ p, p < 4 → Mem.Says w0 M (fun w => w.cell? ((A.getD default).add (4 * i + p)) = some (U8 (bs.getD (4 * i + p) 0#8))) := fun p hp w m => (hA w m).cell (u8s_get (by omega))
  have e : ∀ p : Nat, (4 * (i : Int) + (p : Int)).toNat = 4 * i + p := fun p => by omega
  have l0 : Mem.Says w0 M (fun w => w.cell? ((A.getD default).add (4 * (i : Int)).toNat) = some (U8 (bs.getD (4 * i) 0#8))) := by have := lt 0 (by decide); rw [show (4 * (i : Int)).toNat = 4 * i by omega]; exact this
  have l1 : Mem.Says w0 M (fun w => w.cell? ((A.getD default).add (4 * (i : Int) + 1).toNat) = some (U8 (bs.getD (4 * i + 1) 0#8))) := by have := lt 1 (by decide); rw [show (4 * (i : Int) + 1).toNat = 4 * i + 1 by omega]; exact this
  have l2 : Mem.Says w0 M (fun w => w.cell? ((A.getD default).add (4 * (i : Int) + 2).toNat) = some (U8 (bs.getD (4 * i + 2) 0#8))) := by have := lt 2 (by decide); rw [show (4 * (i : Int) + 2).toNat = 4 * i + 2 by omega]; exact this
  have l3 : Mem.Says w0 M (fun w => w.cell? ((A.getD default).add (4 * (i : Int) + 3).toNat) = some (U8 (bs.getD (4 * i + 3) 0#8))) := by have := lt 3 (by decide); rw [show (4 * (i : Int) + 3).toNat = 4 * i + 3 by omega]; exact this
  refine Does.enter Tryd.func60 rfl Tryd.ntmps60 rfl ?_
  (repeat (first | refine CW.seq ?_ | refine QW.then_n ?_ | refine CW.block ?_ | refine CW.ret ?_ | refine CW.skip ?_ | refine CW.exit ?_ | refine QW.then_x ?_ | refine QW.then_r ?_ | refine QW.block_n ?_ | refine QW.block_xe ?_ | refine QW.block_xn rfl ?_ | refine QW.block_r ?_))
  refine CW.region ?_
  refine OW.rv (RV.assign rfl) rfl ?_
  refine OW.nil ?_
  (repeat (first | refine CW.seq ?_ | refine QW.then_n ?_ | refine CW.block ?_ | refine CW.ret ?_ | refine CW.skip ?_ | refine CW.exit ?_ | refine QW.then_x ?_ | refine QW.then_r ?_ | refine QW.block_n ?_ | refine QW.block_xe ?_ | refine QW.block_xn rfl ?_ | refine QW.block_r ?_))
  (repeat (first | refine CW.seq ?_ | refine QW.then_n ?_ | refine CW.block ?_ | refine CW.ret ?_ | refine CW.skip ?_ | refine CW.exit ?_ | refine QW.then_x ?_ | refine QW.then_r ?_ | refine QW.block_n ?_ | refine QW.block_xe ?_ | refine QW.block_xn rfl ?_ | refine QW.block_r ?_))
  refine CW.draws mixed (by kernel_rfl) ?_
  refine DW.rv (RV.move rfl) rfl ?_
  refine DW.rv (RV.move rfl) rfl ?_
  (first | refine DW.rv (RV.idx_o _ rfl rfl rfl rfl rfl (by first | rfl | assumption) (by omega)) rfl ?_ | refine DW.rv (RV.idx_r _ rfl rfl rfl rfl rfl (by first | rfl | assumption) (by omega)) rfl ?_ | refine DW.rv (RV.idx_oz rfl rfl (by omega) rfl rfl (by first | rfl | assumption) (by omega)) rfl ?_ | refine DW.rv (RV.idx_rz rfl rfl (by omega) rfl rfl (by first | rfl | assumption) (by omega)) rfl ?_)
  (first | refine DW.rv (RV.load rfl (by (repeat (first | exact List.Mem.head _ | assumption | refine List.Mem.tail _ ?_)); done) (by first | rfl | assumption) rfl rfl (by first | rfl | assumption)) rfl ?_ | refine DW.rv (RV.load_at rfl rfl rfl (by (repeat (first | assumption | refine Mem.Says.cons ?_)); done)) rfl ?_)
  refine DW.rv (RV.conv8_32 rfl (by first | rfl | exact lit8 _ rfl) rfl rfl) rfl ?_
  (first | refine DW.rv (RV.shl32 rfl (by first | rfl | exact lit32 _ rfl) rfl rfl) rfl ?_ | refine DW.rv (RV.shl32_i rfl (by first | rfl | exact lit32 _ rfl) rfl (by omega)) rfl ?_)
  refine DW.rv (RV.move rfl) rfl ?_
  refine DW.rv (RV.move rfl) rfl ?_
  refine DW.rv (RV.add rfl rfl (by omega)) rfl ?_
  (first | refine DW.rv (RV.idx_o _ rfl rfl rfl rfl rfl (by first | rfl | assumption) (by omega)) rfl ?_ | refine DW.rv (RV.idx_r _ rfl rfl rfl rfl rfl (by first | rfl | assumption) (by omega)) rfl ?_ | refine DW.rv (RV.idx_oz rfl rfl (by omega) rfl rfl (by first | rfl | assumption) (by omega)) rfl ?_ | refine DW.rv (RV.idx_rz rfl rfl (by omega) rfl rfl (by first | rfl | assumption) (by omega)) rfl ?_)
  (first | refine DW.rv (RV.load rfl (by (repeat (first | exact List.Mem.head _ | assumption | refine List.Mem.tail _ ?_)); done) (by first | rfl | assumption) rfl rfl (by first | rfl | assumption)) rfl ?_ | refine DW.rv (RV.load_at rfl rfl rfl (by (repeat (first | assumption | refine Mem.Says.cons ?_)); done)) rfl ?_)
  refine DW.rv (RV.conv8_32 rfl (by first | rfl | exact lit8 _ rfl) rfl rfl) rfl ?_
  (first | refine DW.rv (RV.shl32 rfl (by first | rfl | exact lit32 _ rfl) rfl rfl) rfl ?_ | refine DW.rv (RV.shl32_i rfl (by first | rfl | exact lit32 _ rfl) rfl (by omega)) rfl ?_)
  refine DW.rv (RV.or32 rfl (by first | rfl | exact lit32 _ rfl) rfl (by first | rfl | exact lit32 _ rfl)) rfl ?_
  refine DW.rv (RV.move rfl) rfl ?_
  refine DW.rv (RV.move rfl) rfl ?_
  refine DW.rv (RV.add rfl rfl (by omega)) rfl ?_
  (first | refine DW.rv (RV.idx_o _ rfl rfl rfl rfl rfl (by first | rfl | assumption) (by omega)) rfl ?_ | refine DW.rv (RV.idx_r _ rfl rfl rfl rfl rfl (by first | rfl | assumption) (by omega)) rfl ?_ | refine DW.rv (RV.idx_oz rfl rfl (by omega) rfl rfl (by first | rfl | assumption) (by omega)) rfl ?_ | refine DW.rv (RV.idx_rz rfl rfl (by omega) rfl rfl (by first | rfl | assumption) (by omega)) rfl ?_)
  (first | refine DW.rv (RV.load rfl (by (repeat (first | exact List.Mem.head _ | assumption | refine List.Mem.tail _ ?_)); done) (by first | rfl | assumption) rfl rfl (by first | rfl | assumption)) rfl ?_ | refine DW.rv (RV.load_at rfl rfl rfl (by (repeat (first | assumption | refine Mem.Says.cons ?_)); done)) rfl ?_)
  refine DW.rv (RV.conv8_32 rfl (by first | rfl | exact lit8 _ rfl) rfl rfl) rfl ?_
  (first | refine DW.rv (RV.shl32 rfl (by first | rfl | exact lit32 _ rfl) rfl rfl) rfl ?_ | refine DW.rv (RV.shl32_i rfl (by first | rfl | exact lit32 _ rfl) rfl (by omega)) rfl ?_)
  refine DW.rv (RV.or32 rfl (by first | rfl | exact lit32 _ rfl) rfl (by first | rfl | exact lit32 _ rfl)) rfl ?_
  refine DW.rv (RV.move rfl) rfl ?_
  refine DW.rv (RV.move rfl) rfl ?_
  refine DW.rv (RV.add rfl rfl (by omega)) rfl ?_
  (first | refine DW.rv (RV.idx_o _ rfl rfl rfl rfl rfl (by first | rfl | assumption) (by omega)) rfl ?_ | refine DW.rv (RV.idx_r _ rfl rfl rfl rfl rfl (by first | rfl | assumption) (by omega)) rfl ?_ | refine DW.rv (RV.idx_oz rfl rfl (by omega) rfl rfl (by first | rfl | assumption) (by omega)) rfl ?_ | refine DW.rv (RV.idx_rz rfl rfl (by omega) rfl rfl (by first | rfl | assumption) (by omega)) rfl ?_)
  (first | refine DW.rv (RV.load rfl (by (repeat (first | exact List.Mem.head _ | assumption | refine List.Mem.tail _ ?_)); done) (by first | rfl | assumption) rfl rfl (by first | rfl | assumption)) rfl ?_ | refine DW.rv (RV.load_at rfl rfl rfl (by (repeat (first | assumption | refine Mem.Says.cons ?_)); done)) rfl ?_)
  refine DW.rv (RV.conv8_32 rfl (by first | rfl | exact lit8 _ rfl) rfl rfl) rfl ?_
  refine DW.rv (RV.or32 rfl (by first | rfl | exact lit32 _ rfl) rfl (by first | rfl | exact lit32 _ rfl)) rfl ?_
  refine DW.rv (RV.assign rfl) rfl ?_
  refine DW.nil ?_
  (repeat (first | refine CW.seq ?_ | refine QW.then_n ?_ | refine CW.block ?_ | refine CW.ret ?_ | refine CW.skip ?_ | refine CW.exit ?_ | refine QW.then_x ?_ | refine QW.then_r ?_ | refine QW.block_n ?_ | refine QW.block_xe ?_ | refine QW.block_xn rfl ?_ | refine QW.block_r ?_))
  refine QW.ret1 rfl () trivial ?_ (fun _ m => m)
  rw [pw_all]; rfl
theorem rwords_does (w0 : World) (M : List Ent) (A : Option Addr) (ca : Nat) (bs : List (BitVec 8)) (hA : Mem.Says w0 M (fun w => Rd w A (u8s bs))) (hl : bs.length = 64) {W : List (BitVec 32)} (hW : wTo bs 48 = W) :
    Does Tryd.prog 54 [.slice A 64 ca] w0 M (τ := Option Nat × List Value × Nat) (fun q => (u32s W ++ q.2.1).length = q.2.2 ∧ (q.1 = none → q.2.2 = 0)) (fun q => sl q.1 0 64 q.2.2) (fun q => (q.1, blk (u32s W ++ q.2.1) 22) :: M) := by
  refine Does.enter Tryd.func54 rfl Tryd.ntmps54 rfl ?_
  (repeat (first | refine CW.seq ?_ | refine QW.then_n ?_ | refine CW.block ?_ | refine CW.ret ?_ | refine CW.skip ?_ | refine CW.exit ?_ | refine QW.then_x ?_ | refine QW.then_r ?_ | refine QW.block_n ?_ | refine QW.block_xe ?_ | refine QW.block_xn rfl ?_ | refine QW.block_r ?_))
  refine CW.region ?_
  refine OW.rv (RV.assign rfl) rfl ?_
  refine OW.nil ?_
  (repeat (first | refine CW.seq ?_ | refine QW.then_n ?_ | refine CW.block ?_ | refine CW.ret ?_ | refine CW.skip ?_ | refine CW.exit ?_ | refine QW.then_x ?_ | refine QW.then_r ?_ | refine QW.block_n ?_ | refine QW.block_xe ?_ | refine QW.block_xn rfl ?_ | refine QW.block_r ?_))
  (repeat (first | refine CW.seq ?_ | refine QW.then_n ?_ | refine CW.block ?_ | refine CW.ret ?_ | refine CW.skip ?_ | refine CW.exit ?_ | refine QW.then_x ?_ | refine QW.then_r ?_ | refine QW.block_n ?_ | refine QW.block_xe ?_ | refine QW.block_xn rfl ?_ | refine QW.block_r ?_))
  refine CW.region ?_
  refine OW.rv (RV.assign rfl) rfl ?_
  refine OW.nil ?_
  (repeat (first | refine CW.seq ?_ | refine QW.then_n ?_ | refine CW.block ?_ | refine CW.ret ?_ | refine CW.skip ?_ | refine CW.exit ?_ | refine QW.then_x ?_ | refine QW.then_r ?_ | refine QW.block_n ?_ | refine QW.block_xe ?_ | refine QW.block_xn rfl ?_ | refine QW.block_r ?_))
  (repeat (first | refine CW.seq ?_ | refine QW.then_n ?_ | refine CW.block ?_ | refine CW.ret ?_ | refine CW.skip ?_ | refine CW.exit ?_ | refine QW.then_x ?_ | refine QW.then_r ?_ | refine QW.block_n ?_ | refine QW.block_xe ?_ | refine QW.block_xn rfl ?_ | refine QW.block_r ?_))
  refine CW.region ?_
  refine OW.rv (RV.assign rfl) rfl ?_
  refine OW.nil ?_
  (repeat (first | refine CW.seq ?_ | refine QW.then_n ?_ | refine CW.block ?_ | refine CW.ret ?_ | refine CW.skip ?_ | refine CW.exit ?_ | refine QW.then_x ?_ | refine QW.then_r ?_ | refine QW.block_n ?_ | refine QW.block_xe ?_ | refine QW.block_xn rfl ?_ | refine QW.block_r ?_))
  refine CW.loop (σ := Nat × Option Nat × List Value × Nat) (fun s => s.1 ≤ 16 ∧ (u32s (firstW bs s.1) ++ s.2.2.1).length = s.2.2.2 ∧ (s.2.1 = none → s.2.2.2 = 0)) (fun s => [(0, .slice A 64 ca), (3, sl s.2.1 0 s.1 s.2.2.2), (4, .int .i64 (s.1 : Int))])
    (fun s => (s.2.1, blk (u32s (firstW bs s.1) ++ s.2.2.1) 22) :: M) (fun s => 16 - s.1) (0, none, [], 0) ⟨by simp, rfl, fun _ => rfl⟩ ⟨rfl, rfl, rfl, trivial⟩ (fun _ m => m.nil_ent _) ?_
  rintro ⟨i, ob, r, cap⟩ ⟨hi, h3, h4⟩
  dsimp only at hi h3 h4 ⊢
  have h5 : (u32s (firstW bs i)).length = i := by rw [u32s_length, firstW_length]
  (repeat (first | refine CW.seq ?_ | refine QW.then_n ?_ | refine CW.block ?_ | refine CW.ret ?_ | refine CW.skip ?_ | refine CW.exit ?_ | refine QW.then_x ?_ | refine QW.then_r ?_ | refine QW.block_n ?_ | refine QW.block_xe ?_ | refine QW.block_xn rfl ?_ | refine QW.block_r ?_))
  refine CW.region ?_
  refine OW.rv (RV.move rfl) rfl ?_
  refine OW.rv (RV.lss rfl rfl) rfl ?_
  refine OW.nil ?_
  (repeat (first | refine CW.seq ?_ | refine QW.then_n ?_ | refine CW.block ?_ | refine CW.ret ?_ | refine CW.skip ?_ | refine CW.exit ?_ | refine QW.then_x ?_ | refine QW.then_r ?_ | refine QW.block_n ?_ | refine QW.block_xe ?_ | refine QW.block_xn rfl ?_ | refine QW.block_r ?_))
  (first | refine CW.cond_t rfl ?_ | refine CW.cond_f rfl ?_ | refine CW.cond_p rfl (fun hlt => ?_) (fun hlt => ?_) | refine CW.cond_np rfl (fun hlt => ?_) (fun hlt => ?_) | refine CW.cond rfl (fun hlt => ?_) (fun hlt => ?_))
  · have hi2 : i < 16 := by omega
    (repeat (first | refine CW.seq ?_ | refine QW.then_n ?_ | refine CW.block ?_ | refine CW.ret ?_ | refine CW.skip ?_ | refine CW.exit ?_ | refine QW.then_x ?_ | refine QW.then_r ?_ | refine QW.block_n ?_ | refine QW.block_xe ?_ | refine QW.block_xn rfl ?_ | refine QW.block_r ?_))
    refine CW.region ?_
    refine OW.rv (RV.move rfl) rfl ?_
    refine OW.rv (RV.move rfl) rfl ?_
    refine OW.rv (RV.move rfl) rfl ?_
    refine OW.rv (RV.mul rfl rfl (by omega)) rfl ?_
    refine OW.call Tryd.call60 rfl (word_does w0 _ A ca bs (Mem.Says.cons hA) hl i hi2) rfl (fun u hu => ?_)
    (first | refine OW.push rfl rfl rfl rfl rfl rfl rfl rfl (by first | assumption | rfl | simp | omega) (by first | assumption | rfl | (simp; done)) (by first | assumption | exact (fun _ => rfl) | exact (fun h => nomatch h)) (by omega) (by simp only [i22]; omega) rfl rfl (fun b20 ob20 r20 cap20 hr20 hn20 => ?_) | (refine OW.rot1 ?_; refine OW.push rfl rfl rfl rfl rfl rfl rfl rfl (by first | assumption | rfl | simp | omega) (by first | assumption | rfl | (simp; done)) (by first | assumption | exact (fun _ => rfl) | exact (fun h => nomatch h)) (by omega) (by simp only [i22]; omega) rfl rfl (fun b20 ob20 r20 cap20 hr20 hn20 => ?_)) | (refine OW.rot2 ?_; refine OW.push rfl rfl rfl rfl rfl rfl rfl rfl (by first | assumption | rfl | simp | omega) (by first | assumption | rfl | (simp; done)) (by first | assumption | exact (fun _ => rfl) | exact (fun h => nomatch h)) (by omega) (by simp only [i22]; omega) rfl rfl (fun b20 ob20 r20 cap20 hr20 hn20 => ?_)) | (refine OW.rot3 ?_; refine OW.push rfl rfl rfl rfl rfl rfl rfl rfl (by first | assumption | rfl | simp | omega) (by first | assumption | rfl | (simp; done)) (by first | assumption | exact (fun _ => rfl) | exact (fun h => nomatch h)) (by omega) (by simp only [i22]; omega) rfl rfl (fun b20 ob20 r20 cap20 hr20 hn20 => ?_)))
    refine OW.rv (RV.assign rfl) rfl ?_
    refine OW.nil ?_
    (repeat (first | refine CW.seq ?_ | refine QW.then_n ?_ | refine CW.block ?_ | refine CW.ret ?_ | refine CW.skip ?_ | refine CW.exit ?_ | refine QW.then_x ?_ | refine QW.then_r ?_ | refine QW.block_n ?_ | refine QW.block_xe ?_ | refine QW.block_xn rfl ?_ | refine QW.block_r ?_))
    (repeat (first | refine CW.seq ?_ | refine QW.then_n ?_ | refine CW.block ?_ | refine CW.ret ?_ | refine CW.skip ?_ | refine CW.exit ?_ | refine QW.then_x ?_ | refine QW.then_r ?_ | refine QW.block_n ?_ | refine QW.block_xe ?_ | refine QW.block_xn rfl ?_ | refine QW.block_r ?_))
    refine CW.region ?_
    refine OW.rv (RV.move rfl) rfl ?_
    refine OW.rv (RV.add rfl rfl (by omega)) rfl ?_
    refine OW.rv (RV.assign rfl) rfl ?_
    refine OW.nil ?_
    (repeat (first | refine CW.seq ?_ | refine QW.then_n ?_ | refine CW.block ?_ | refine CW.ret ?_ | refine CW.skip ?_ | refine CW.exit ?_ | refine QW.then_x ?_ | refine QW.then_r ?_ | refine QW.block_n ?_ | refine QW.block_xe ?_ | refine QW.block_xn rfl ?_ | refine QW.block_r ?_))
    have e2 : u32s (firstW bs (i + 1)) = u32s (firstW bs i) ++ [U32 (pw bs i 4)] := by rw [firstW_succ]; simp [u32s]
    refine QW.again (i + 1, ob20, r20, cap20) ⟨by show i + 1 ≤ 16; omega, by rw [e2]; exact hr20, hn20⟩ (by show 16 - (i + 1) < 16 - i; omega) ⟨rfl, rfl, rfl, trivial⟩ (fun _ m => by rw [e2]; exact m)
  have hi2 : i = 16 := by omega
  subst hi2
  (repeat (first | refine CW.seq ?_ | refine QW.then_n ?_ | refine CW.block ?_ | refine CW.ret ?_ | refine CW.skip ?_ | refine CW.exit ?_ | refine QW.then_x ?_ | refine QW.then_r ?_ | refine QW.block_n ?_ | refine QW.block_xe ?_ | refine QW.block_xn rfl ?_ | refine QW.block_r ?_))
  refine CW.region ?_
  refine OW.rv (RV.assign rfl) rfl ?_
  refine OW.nil ?_
  (repeat (first | refine CW.seq ?_ | refine QW.then_n ?_ | refine CW.block ?_ | refine CW.ret ?_ | refine CW.skip ?_ | refine CW.exit ?_ | refine QW.then_x ?_ | refine QW.then_r ?_ | refine QW.block_n ?_ | refine QW.block_xe ?_ | refine QW.block_xn rfl ?_ | refine QW.block_r ?_))
  have ew0 : firstW bs 16 = wTo bs 0 := (wTo_zero bs).symm
  rw [ew0] at h3 ⊢
  refine CW.loop (σ := Nat × Option Nat × List Value × Nat) (fun s => s.1 ≤ 48 ∧ (u32s (wTo bs s.1) ++ s.2.2.1).length = s.2.2.2 ∧ (s.2.1 = none → s.2.2.2 = 0)) (fun s => [(3, sl s.2.1 0 (16 + s.1) s.2.2.2), (5, .int .i64 ((16 + s.1 : Nat) : Int))])
    (fun s => (s.2.1, blk (u32s (wTo bs s.1) ++ s.2.2.1) 22) :: M) (fun s => 48 - s.1) (0, ob, r, cap) ⟨by simp, h3, h4⟩ ⟨rfl, rfl, trivial⟩ (fun _ m => m) ?_
  clear hlt hi h5 h3 h4 ew0 ob r cap
  rintro ⟨k, ob, r, cap⟩ ⟨hk, h3, h4⟩
  dsimp only at hk h3 h4 ⊢
  have hwl := wTo_length bs k
  have h5 : (u32s (wTo bs k)).length = 16 + k := by rw [u32s_length, hwl]
  have hob : ob.isSome = true := by
    rcases hoo : ob with _ | b
    · have := h4 hoo
      rw [List.length_append] at h3; omega
    · rfl
  (repeat (first | refine CW.seq ?_ | refine QW.then_n ?_ | refine CW.block ?_ | refine CW.ret ?_ | refine CW.skip ?_ | refine CW.exit ?_ | refine QW.then_x ?_ | refine QW.then_r ?_ | refine QW.block_n ?_ | refine QW.block_xe ?_ | refine QW.block_xn rfl ?_ | refine QW.block_r ?_))
  refine CW.region ?_
  refine OW.rv (RV.move rfl) rfl ?_
  refine OW.rv (RV.lss rfl rfl) rfl ?_
  refine OW.nil ?_
  (repeat (first | refine CW.seq ?_ | refine QW.then_n ?_ | refine CW.block ?_ | refine CW.ret ?_ | refine CW.skip ?_ | refine CW.exit ?_ | refine QW.then_x ?_ | refine QW.then_r ?_ | refine QW.block_n ?_ | refine QW.block_xe ?_ | refine QW.block_xn rfl ?_ | refine QW.block_r ?_))
  (first | refine CW.cond_t rfl ?_ | refine CW.cond_f rfl ?_ | refine CW.cond_p rfl (fun hlt => ?_) (fun hlt => ?_) | refine CW.cond_np rfl (fun hlt => ?_) (fun hlt => ?_) | refine CW.cond rfl (fun hlt => ?_) (fun hlt => ?_))
  · have hk2 : k < 48 := by omega
    have gt : ∀ p : Nat, p ≤ 16 → 1 ≤ p → (u32s (wTo bs k) ++ r)[0 + (((16 + k : Nat) : Int) - (p : Int)).toNat]? = some (U32 ((wTo bs k).getD (16 + k - p) 0#32)) := fun p hp hp1 => by
      rw [show 0 + (((16 + k : Nat) : Int) - (p : Int)).toNat = 16 + k - p by omega, List.getElem?_append_left (by omega), u32s_get (by omega)]
    have g15 := gt 15 (by omega) (by omega)
    have g2 := gt 2 (by omega) (by omega)
    have g7 := gt 7 (by omega) (by omega)
    have g16 := gt 16 (by omega) (by omega)
    (repeat (first | refine CW.seq ?_ | refine QW.then_n ?_ | refine CW.block ?_ | refine CW.ret ?_ | refine CW.skip ?_ | refine CW.exit ?_ | refine QW.then_x ?_ | refine QW.then_r ?_ | refine QW.block_n ?_ | refine QW.block_xe ?_ | refine QW.block_xn rfl ?_ | refine QW.block_r ?_))
    refine CW.region ?_
    refine OW.rv (RV.move rfl) rfl ?_
    refine OW.rv (RV.move rfl) rfl ?_
    refine OW.rv (RV.sub rfl rfl (by omega)) rfl ?_
    (first | refine OW.rv (RV.idx_o _ rfl rfl rfl rfl rfl (by first | rfl | assumption) (by omega)) rfl ?_ | refine OW.rv (RV.idx_r _ rfl rfl rfl rfl rfl (by first | rfl | assumption) (by omega)) rfl ?_ | refine OW.rv (RV.idx_oz rfl rfl (by omega) rfl rfl (by first | rfl | assumption) (by omega)) rfl ?_ | refine OW.rv (RV.idx_rz rfl rfl (by omega) rfl rfl (by first | rfl | assumption) (by omega)) rfl ?_)
    (first | refine OW.rv (RV.load rfl (by (repeat (first | exact List.Mem.head _ | assumption | refine List.Mem.tail _ ?_)); done) (by first | rfl | assumption) rfl rfl (by first | rfl | assumption)) rfl ?_ | refine OW.rv (RV.load_at rfl rfl rfl (by (repeat (first | assumption | refine Mem.Says.cons ?_)); done)) rfl ?_)
    refine OW.rv (RV.assign rfl) rfl ?_
    refine OW.nil ?_
    (repeat (first | refine CW.seq ?_ | refine QW.then_n ?_ | refine CW.block ?_ | refine CW.ret ?_ | refine CW.skip ?_ | refine CW.exit ?_ | refine QW.then_x ?_ | refine QW.then_r ?_ | refine QW.block_n ?_ | refine QW.block_xe ?_ | refine QW.block_xn rfl ?_ | refine QW.block_r ?_))
    (repeat (first | refine CW.seq ?_ | refine QW.then_n ?_ | refine CW.block ?_ | refine CW.ret ?_ | refine CW.skip ?_ | refine CW.exit ?_ | refine QW.then_x ?_ | refine QW.then_r ?_ | refine QW.block_n ?_ | refine QW.block_xe ?_ | refine QW.block_xn rfl ?_ | refine QW.block_r ?_))
    refine CW.region ?_
    refine OW.rv (RV.move rfl) rfl ?_
    refine OW.rv (RV.move rfl) rfl ?_
    refine OW.rv (RV.sub rfl rfl (by omega)) rfl ?_
    (first | refine OW.rv (RV.idx_o _ rfl rfl rfl rfl rfl (by first | rfl | assumption) (by omega)) rfl ?_ | refine OW.rv (RV.idx_r _ rfl rfl rfl rfl rfl (by first | rfl | assumption) (by omega)) rfl ?_ | refine OW.rv (RV.idx_oz rfl rfl (by omega) rfl rfl (by first | rfl | assumption) (by omega)) rfl ?_ | refine OW.rv (RV.idx_rz rfl rfl (by omega) rfl rfl (by first | rfl | assumption) (by omega)) rfl ?_)
    (first | refine OW.rv (RV.load rfl (by (repeat (first | exact List.Mem.head _ | assumption | refine List.Mem.tail _ ?_)); done) (by first | rfl | assumption) rfl rfl (by first | rfl | assumption)) rfl ?_ | refine OW.rv (RV.load_at rfl rfl rfl (by (repeat (first | assumption | refine Mem.Says.cons ?_)); done)) rfl ?_)
    refine OW.rv (RV.assign rfl) rfl ?_
    refine OW.nil ?_
    (repeat (first | refine CW.seq ?_ | refine QW.then_n ?_ | refine CW.block ?_ | refine CW.ret ?_ | refine CW.skip ?_ | refine CW.exit ?_ | refine QW.then_x ?_ | refine QW.then_r ?_ | refine QW.block_n ?_ | refine QW.block_xe ?_ | refine QW.block_xn rfl ?_ | refine QW.block_r ?_))
    (repeat (first | refine CW.seq ?_ | refine QW.then_n ?_ | refine CW.block ?_ | refine CW.ret ?_ | refine CW.skip ?_ | refine CW.exit ?_ | refine QW.then_x ?_ | refine QW.then_r ?_ | refine QW.block_n ?_ | refine QW.block_xe ?_ | refine QW.block_xn rfl ?_ | refine QW.block_r ?_))
    refine CW.region ?_
    refine OW.rv (RV.move rfl) rfl ?_
    refine OW.call Tryd.call55 rfl (turned_does w0 _ _ 7#64 7 (by decide) (by decide)) rfl (fun u hu => ?_)
    refine OW.rv (RV.move rfl) rfl ?_
    refine OW.call Tryd.call55 rfl (turned_does w0 _ _ 18#64 18 (by decide) (by decide)) rfl (fun u hu => ?_)
    refine OW.rv (RV.xor32 rfl (by first | rfl | exact lit32 _ rfl) rfl (by first | rfl | exact lit32 _ rfl)) rfl ?_
    refine OW.rv (RV.move rfl) rfl ?_
    (first | refine OW.rv (RV.shr32 rfl (by first | rfl | exact lit32 _ rfl) rfl rfl) rfl ?_ | refine OW.rv (RV.shr32_i rfl (by first | rfl | exact lit32 _ rfl) rfl (by omega)) rfl ?_)
    refine OW.rv (RV.xor32 rfl (by first | rfl | exact lit32 _ rfl) rfl (by first | rfl | exact lit32 _ rfl)) rfl ?_
    refine OW.rv (RV.assign rfl) rfl ?_
    refine OW.nil ?_
    (repeat (first | refine CW.seq ?_ | refine QW.then_n ?_ | refine CW.block ?_ | refine CW.ret ?_ | refine CW.skip ?_ | refine CW.exit ?_ | refine QW.then_x ?_ | refine QW.then_r ?_ | refine QW.block_n ?_ | refine QW.block_xe ?_ | refine QW.block_xn rfl ?_ | refine QW.block_r ?_))
    (repeat (first | refine CW.seq ?_ | refine QW.then_n ?_ | refine CW.block ?_ | refine CW.ret ?_ | refine CW.skip ?_ | refine CW.exit ?_ | refine QW.then_x ?_ | refine QW.then_r ?_ | refine QW.block_n ?_ | refine QW.block_xe ?_ | refine QW.block_xn rfl ?_ | refine QW.block_r ?_))
    refine CW.region ?_
    refine OW.rv (RV.move rfl) rfl ?_
    refine OW.call Tryd.call55 rfl (turned_does w0 _ _ 17#64 17 (by decide) (by decide)) rfl (fun u hu => ?_)
    refine OW.rv (RV.move rfl) rfl ?_
    refine OW.call Tryd.call55 rfl (turned_does w0 _ _ 19#64 19 (by decide) (by decide)) rfl (fun u hu => ?_)
    refine OW.rv (RV.xor32 rfl (by first | rfl | exact lit32 _ rfl) rfl (by first | rfl | exact lit32 _ rfl)) rfl ?_
    refine OW.rv (RV.move rfl) rfl ?_
    (first | refine OW.rv (RV.shr32 rfl (by first | rfl | exact lit32 _ rfl) rfl rfl) rfl ?_ | refine OW.rv (RV.shr32_i rfl (by first | rfl | exact lit32 _ rfl) rfl (by omega)) rfl ?_)
    refine OW.rv (RV.xor32 rfl (by first | rfl | exact lit32 _ rfl) rfl (by first | rfl | exact lit32 _ rfl)) rfl ?_
    refine OW.rv (RV.assign rfl) rfl ?_
    refine OW.nil ?_
    (repeat (first | refine CW.seq ?_ | refine QW.then_n ?_ | refine CW.block ?_ | refine CW.ret ?_ | refine CW.skip ?_ | refine CW.exit ?_ | refine QW.then_x ?_ | refine QW.then_r ?_ | refine QW.block_n ?_ | refine QW.block_xe ?_ | refine QW.block_xn rfl ?_ | refine QW.block_r ?_))
    (repeat (first | refine CW.seq ?_ | refine QW.then_n ?_ | refine CW.block ?_ | refine CW.ret ?_ | refine CW.skip ?_ | refine CW.exit ?_ | refine QW.then_x ?_ | refine QW.then_r ?_ | refine QW.block_n ?_ | refine QW.block_xe ?_ | refine QW.block_xn rfl ?_ | refine QW.block_r ?_))
    refine CW.drawsU 17 mixed (by kernel_rfl) rfl ?_
    refine UW.rv 0 rfl (by kernel_rfl) rfl (RV.move rfl) rfl ?_
    refine UW.rv 1 rfl (by kernel_rfl) rfl (RV.move rfl) rfl ?_
    refine UW.rv 2 rfl (by kernel_rfl) rfl (RV.move rfl) rfl ?_
    refine UW.rv 3 rfl (by kernel_rfl) rfl (RV.move rfl) rfl ?_
    refine UW.rv 4 rfl (by kernel_rfl) rfl (RV.sub rfl rfl (by omega)) rfl ?_
    (first | refine UW.rv 5 rfl (by kernel_rfl) rfl (RV.idx_o _ rfl rfl rfl rfl rfl (by first | rfl | assumption) (by omega)) rfl ?_ | refine UW.rv 5 rfl (by kernel_rfl) rfl (RV.idx_r _ rfl rfl rfl rfl rfl (by first | rfl | assumption) (by omega)) rfl ?_ | refine UW.rv 5 rfl (by kernel_rfl) rfl (RV.idx_oz rfl rfl (by omega) rfl rfl (by first | rfl | assumption) (by omega)) rfl ?_ | refine UW.rv 5 rfl (by kernel_rfl) rfl (RV.idx_rz rfl rfl (by omega) rfl rfl (by first | rfl | assumption) (by omega)) rfl ?_)
    (first | refine UW.rv 6 rfl (by kernel_rfl) rfl (RV.load rfl (by (repeat (first | exact List.Mem.head _ | assumption | refine List.Mem.tail _ ?_)); done) (by first | rfl | assumption) rfl rfl (by first | rfl | assumption)) rfl ?_ | refine UW.rv 6 rfl (by kernel_rfl) rfl (RV.load_at rfl rfl rfl (by (repeat (first | assumption | refine Mem.Says.cons ?_)); done)) rfl ?_)
    refine UW.rv 7 rfl (by kernel_rfl) rfl (RV.add32 rfl (by first | rfl | exact lit32 _ rfl) rfl (by first | rfl | exact lit32 _ rfl)) rfl ?_
    refine UW.rv 8 rfl (by kernel_rfl) rfl (RV.move rfl) rfl ?_
    refine UW.rv 9 rfl (by kernel_rfl) rfl (RV.add32 rfl (by first | rfl | exact lit32 _ rfl) rfl (by first | rfl | exact lit32 _ rfl)) rfl ?_
    refine UW.rv 10 rfl (by kernel_rfl) rfl (RV.move rfl) rfl ?_
    refine UW.rv 11 rfl (by kernel_rfl) rfl (RV.move rfl) rfl ?_
    refine UW.rv 12 rfl (by kernel_rfl) rfl (RV.sub rfl rfl (by omega)) rfl ?_
    (first | refine UW.rv 13 rfl (by kernel_rfl) rfl (RV.idx_o _ rfl rfl rfl rfl rfl (by first | rfl | assumption) (by omega)) rfl ?_ | refine UW.rv 13 rfl (by kernel_rfl) rfl (RV.idx_r _ rfl rfl rfl rfl rfl (by first | rfl | assumption) (by omega)) rfl ?_ | refine UW.rv 13 rfl (by kernel_rfl) rfl (RV.idx_oz rfl rfl (by omega) rfl rfl (by first | rfl | assumption) (by omega)) rfl ?_ | refine UW.rv 13 rfl (by kernel_rfl) rfl (RV.idx_rz rfl rfl (by omega) rfl rfl (by first | rfl | assumption) (by omega)) rfl ?_)
    (first | refine UW.rv 14 rfl (by kernel_rfl) rfl (RV.load rfl (by (repeat (first | exact List.Mem.head _ | assumption | refine List.Mem.tail _ ?_)); done) (by first | rfl | assumption) rfl rfl (by first | rfl | assumption)) rfl ?_ | refine UW.rv 14 rfl (by kernel_rfl) rfl (RV.load_at rfl rfl rfl (by (repeat (first | assumption | refine Mem.Says.cons ?_)); done)) rfl ?_)
    refine UW.rv 15 rfl (by kernel_rfl) rfl (RV.add32 rfl (by first | rfl | exact lit32 _ rfl) rfl (by first | rfl | exact lit32 _ rfl)) rfl ?_
    refine UW.new 16 rfl (by kernel_rfl) rfl (NV.bs1 rfl rfl rfl rfl rfl rfl) rfl (fun b67 => ?_)
    refine UW.nil (by kernel_rfl) ?_
    refine OW.app1 rfl rfl rfl rfl rfl rfl rfl (by first | assumption | rfl | simp | omega) (by first | assumption | rfl | (simp; done)) (by first | assumption | exact (fun _ => rfl) | exact (fun h => nomatch h)) (by omega) (by simp only [i22]; omega) rfl (fun ob68 r68 cap68 hr68 hn68 => ?_)
    refine OW.rv (RV.assign rfl) rfl ?_
    refine OW.nil ?_
    (repeat (first | refine CW.seq ?_ | refine QW.then_n ?_ | refine CW.block ?_ | refine CW.ret ?_ | refine CW.skip ?_ | refine CW.exit ?_ | refine QW.then_x ?_ | refine QW.then_r ?_ | refine QW.block_n ?_ | refine QW.block_xe ?_ | refine QW.block_xn rfl ?_ | refine QW.block_r ?_))
    (repeat (first | refine CW.seq ?_ | refine QW.then_n ?_ | refine CW.block ?_ | refine CW.ret ?_ | refine CW.skip ?_ | refine CW.exit ?_ | refine QW.then_x ?_ | refine QW.then_r ?_ | refine QW.block_n ?_ | refine QW.block_xe ?_ | refine QW.block_xn rfl ?_ | refine QW.block_r ?_))
    refine CW.region ?_
    refine OW.rv (RV.move rfl) rfl ?_
    refine OW.rv (RV.add rfl rfl (by omega)) rfl ?_
    refine OW.rv (RV.assign rfl) rfl ?_
    refine OW.nil ?_
    (repeat (first | refine CW.seq ?_ | refine QW.then_n ?_ | refine CW.block ?_ | refine CW.ret ?_ | refine CW.skip ?_ | refine CW.exit ?_ | refine QW.then_x ?_ | refine QW.then_r ?_ | refine QW.block_n ?_ | refine QW.block_xe ?_ | refine QW.block_xn rfl ?_ | refine QW.block_r ?_))
    have e2 : u32s (wTo bs (k + 1)) = u32s (wTo bs k) ++ [U32 (wnext (wTo bs k) (16 + k))] := by rw [wTo_succ]; simp [u32s]
    refine QW.again (k + 1, ob68, r68, cap68) ⟨by show k + 1 ≤ 48; omega, by rw [e2]; exact hr68, hn68⟩ (by show 48 - (k + 1) < 48 - k; omega) ⟨rfl, rfl, trivial⟩ (fun _ m => by rw [e2]; exact m)
  have hk2 : k = 48 := by omega
  subst hk2
  rw [hW] at h3 ⊢
  (repeat (first | refine CW.seq ?_ | refine QW.then_n ?_ | refine CW.block ?_ | refine CW.ret ?_ | refine CW.skip ?_ | refine CW.exit ?_ | refine QW.then_x ?_ | refine QW.then_r ?_ | refine QW.block_n ?_ | refine QW.block_xe ?_ | refine QW.block_xn rfl ?_ | refine QW.block_r ?_))
  refine CW.region ?_
  refine OW.rv (RV.move rfl) rfl ?_
  refine OW.rv (RV.assign rfl) rfl ?_
  refine OW.nil ?_
  (repeat (first | refine CW.seq ?_ | refine QW.then_n ?_ | refine CW.block ?_ | refine CW.ret ?_ | refine CW.skip ?_ | refine CW.exit ?_ | refine QW.then_x ?_ | refine QW.then_r ?_ | refine QW.block_n ?_ | refine QW.block_xe ?_ | refine QW.block_xn rfl ?_ | refine QW.block_r ?_))
  exact QW.ret1 rfl (ob, r, cap) ⟨h3, h4⟩ rfl (fun _ m => m)
theorem list8 {l : List (BitVec 32)} (h : l.length = 8) : l = [l.getD 0 0#32, l.getD 1 0#32, l.getD 2 0#32, l.getD 3 0#32, l.getD 4 0#32, l.getD 5 0#32, l.getD 6 0#32, l.getD 7 0#32] := by
  match l, h with
  | [_, _, _, _, _, _, _, _], _ => rfl
theorem rounds_does (w0 : World) (M : List Ent) (K : List (BitVec 32)) (hKl : K.length = 64) (B : Option Addr) (cb : Nat) (hB : Mem.Says w0 M (fun w => Rd w B (u32s K))) (s : List (BitVec 32)) (hs : s.length = 8) (A : Option Addr) (ca : Nat) (bs : List (BitVec 8)) (hA : Mem.Says w0 M (fun w => Rd w A (u8s bs))) (hl : bs.length = 64) :
    Does Tryd.prog 41 [.agg (u32s s).toArray, .slice A 64 ca, .slice B 64 cb] w0 M (τ := Unit) (fun _ => True) (fun _ => .agg (u32s (behindL K s bs)).toArray) (fun _ => M) := by
  refine Does.of_mem fun w1 m1 => ?_
  have sB : B.isSome = true := Rd.someOf (f := U32) (hB w1 m1) (i := 0) (by omega)
  have hW : behindL K s bs = addL s (runTo K (wTo bs 48) (St.of s) 64).toL := rfl
  obtain ⟨W, hWe⟩ : ∃ W, wTo bs 48 = W := ⟨_, rfl⟩
  have hwl : W.length = 64 := by rw [← hWe]; exact wTo_length bs 48
  rw [hWe] at hW
  have hz8 : z8.length = 8 := rfl
  refine Does.enter Tryd.func41 rfl Tryd.ntmps41 rfl ?_
  (repeat (first | refine CW.seq ?_ | refine QW.then_n ?_ | refine CW.block ?_ | refine CW.ret ?_ | refine CW.skip ?_ | refine CW.exit ?_ | refine QW.then_x ?_ | refine QW.then_r ?_ | refine QW.block_n ?_ | refine QW.block_xe ?_ | refine QW.block_xn rfl ?_ | refine QW.block_r ?_))
  refine CW.region ?_
  refine OW.boxA rfl rfl (fun b3 => ?_)
  refine OW.alloc (l := u32s (List.replicate 8 0#32)) rfl (by rw [← u32s_rep]; rfl) rfl (fun b6 => ?_)
  refine OW.nil ?_
  (repeat (first | refine CW.seq ?_ | refine QW.then_n ?_ | refine CW.block ?_ | refine CW.ret ?_ | refine CW.skip ?_ | refine CW.exit ?_ | refine QW.then_x ?_ | refine QW.then_r ?_ | refine QW.block_n ?_ | refine QW.block_xe ?_ | refine QW.block_xn rfl ?_ | refine QW.block_r ?_))
  (repeat (first | refine CW.seq ?_ | refine QW.then_n ?_ | refine CW.block ?_ | refine CW.ret ?_ | refine CW.skip ?_ | refine CW.exit ?_ | refine QW.then_x ?_ | refine QW.then_r ?_ | refine QW.block_n ?_ | refine QW.block_xe ?_ | refine QW.block_xn rfl ?_ | refine QW.block_r ?_))
  refine CW.region ?_
  refine OW.rv (RV.move rfl) rfl ?_
  refine OW.call Tryd.call54 rfl (rwords_does w0 _ A ca bs (Mem.Says.cons (Mem.Says.cons hA)) hl hWe) rfl (fun q hq => ?_)
  refine OW.rv (RV.assign rfl) rfl ?_
  refine OW.nil ?_
  (repeat (first | refine CW.seq ?_ | refine QW.then_n ?_ | refine CW.block ?_ | refine CW.ret ?_ | refine CW.skip ?_ | refine CW.exit ?_ | refine QW.then_x ?_ | refine QW.then_r ?_ | refine QW.block_n ?_ | refine QW.block_xe ?_ | refine QW.block_xn rfl ?_ | refine QW.block_r ?_))
  obtain ⟨ow, rw', cw⟩ := q
  dsimp only at hq ⊢
  have how : ow.isSome = true := by
    rcases hoo : ow with _ | b
    · have h1 := hq.1
      have := hq.2 hoo
      rw [List.length_append, u32s_length] at h1; omega
    · rfl
  (repeat (first | refine CW.seq ?_ | refine QW.then_n ?_ | refine CW.block ?_ | refine CW.ret ?_ | refine CW.skip ?_ | refine CW.exit ?_ | refine QW.then_x ?_ | refine QW.then_r ?_ | refine QW.block_n ?_ | refine QW.block_xe ?_ | refine QW.block_xn rfl ?_ | refine QW.block_r ?_))
  refine CW.region ?_
  (first | refine OW.rv (RV.loadW rfl (by (repeat (first | exact List.Mem.head _ | assumption | refine List.Mem.tail _ ?_)); done) (by first | rfl | assumption) rfl rfl rfl (by first | assumption | exact (u32s_length _).trans (List.length_replicate ..) | exact (u32s_length _).trans (by assumption) | rfl | (simp; done) | (simp [*]; done) | (simp [*]; rfl))) rfl ?_ | refine OW.rv (RV.loadAo rfl (by (repeat (first | exact List.Mem.head _ | assumption | refine List.Mem.tail _ ?_)); done) (by first | rfl | assumption) rfl rfl rfl (by assumption) (by first | assumption | exact (u32s_length _).trans (List.length_replicate ..) | exact (u32s_length _).trans (by assumption) | rfl | (simp; done) | (simp [*]; done) | (simp [*]; rfl))) rfl ?_ | refine OW.rv (RV.loadAs rfl rfl rfl rfl (by (repeat (first | assumption | refine Mem.Says.cons ?_)); done) (by first | assumption | exact (u32s_length _).trans (List.length_replicate ..) | exact (u32s_length _).trans (by assumption) | rfl | (simp; done) | (simp [*]; done) | (simp [*]; rfl))) rfl ?_)
  refine OW.alloc (l := u32s (List.replicate 8 0#32)) rfl (by rw [← u32s_rep]; rfl) rfl (fun b8 => ?_)
  (first | (first | refine OW.sv (SV.storeW rfl (by first | rfl | assumption) rfl (by first | exact u32s_one _ | assumption) rfl (by first | assumption | exact (u32s_length _).trans (List.length_replicate ..) | exact (u32s_length _).trans (by assumption) | rfl | (simp; done) | (simp [*]; done) | (simp [*]; rfl)) (by first | assumption | exact (u32s_length _).trans (List.length_replicate ..) | exact (u32s_length _).trans (by assumption) | rfl | (simp; done) | (simp [*]; done) | (simp [*]; rfl))) ?_ | refine OW.sv (SV.storeAs rfl (by first | rfl | assumption) rfl (by first | exact u32s_one _ | assumption) rfl (by first | assumption | exact (u32s_length _).trans (List.length_replicate ..) | exact (u32s_length _).trans (by assumption) | rfl | (simp; done) | (simp [*]; done) | (simp [*]; rfl)) (by first | assumption | (simp; done) | (simp; omega) | omega)) ?_) | (refine OW.rot1 ?_; (first | refine OW.sv (SV.storeW rfl (by first | rfl | assumption) rfl (by first | exact u32s_one _ | assumption) rfl (by first | assumption | exact (u32s_length _).trans (List.length_replicate ..) | exact (u32s_length _).trans (by assumption) | rfl | (simp; done) | (simp [*]; done) | (simp [*]; rfl)) (by first | assumption | exact (u32s_length _).trans (List.length_replicate ..) | exact (u32s_length _).trans (by assumption) | rfl | (simp; done) | (simp [*]; done) | (simp [*]; rfl))) ?_ | refine OW.sv (SV.storeAs rfl (by first | rfl | assumption) rfl (by first | exact u32s_one _ | assumption) rfl (by first | assumption | exact (u32s_length _).trans (List.length_replicate ..) | exact (u32s_length _).trans (by assumption) | rfl | (simp; done) | (simp [*]; done) | (simp [*]; rfl)) (by first | assumption | (simp; done) | (simp; omega) | omega)) ?_)) | (refine OW.rot2 ?_; (first | refine OW.sv (SV.storeW rfl (by first | rfl | assumption) rfl (by first | exact u32s_one _ | assumption) rfl (by first | assumption | exact (u32s_length _).trans (List.length_replicate ..) | exact (u32s_length _).trans (by assumption) | rfl | (simp; done) | (simp [*]; done) | (simp [*]; rfl)) (by first | assumption | exact (u32s_length _).trans (List.length_replicate ..) | exact (u32s_length _).trans (by assumption) | rfl | (simp; done) | (simp [*]; done) | (simp [*]; rfl))) ?_ | refine OW.sv (SV.storeAs rfl (by first | rfl | assumption) rfl (by first | exact u32s_one _ | assumption) rfl (by first | assumption | exact (u32s_length _).trans (List.length_replicate ..) | exact (u32s_length _).trans (by assumption) | rfl | (simp; done) | (simp [*]; done) | (simp [*]; rfl)) (by first | assumption | (simp; done) | (simp; omega) | omega)) ?_)) | (refine OW.rot3 ?_; (first | refine OW.sv (SV.storeW rfl (by first | rfl | assumption) rfl (by first | exact u32s_one _ | assumption) rfl (by first | assumption | exact (u32s_length _).trans (List.length_replicate ..) | exact (u32s_length _).trans (by assumption) | rfl | (simp; done) | (simp [*]; done) | (simp [*]; rfl)) (by first | assumption | exact (u32s_length _).trans (List.length_replicate ..) | exact (u32s_length _).trans (by assumption) | rfl | (simp; done) | (simp [*]; done) | (simp [*]; rfl))) ?_ | refine OW.sv (SV.storeAs rfl (by first | rfl | assumption) rfl (by first | exact u32s_one _ | assumption) rfl (by first | assumption | exact (u32s_length _).trans (List.length_replicate ..) | exact (u32s_length _).trans (by assumption) | rfl | (simp; done) | (simp [*]; done) | (simp [*]; rfl)) (by first | assumption | (simp; done) | (simp; omega) | omega)) ?_)) | (refine OW.rot4 ?_; (first | refine OW.sv (SV.storeW rfl (by first | rfl | assumption) rfl (by first | exact u32s_one _ | assumption) rfl (by first | assumption | exact (u32s_length _).trans (List.length_replicate ..) | exact (u32s_length _).trans (by assumption) | rfl | (simp; done) | (simp [*]; done) | (simp [*]; rfl)) (by first | assumption | exact (u32s_length _).trans (List.length_replicate ..) | exact (u32s_length _).trans (by assumption) | rfl | (simp; done) | (simp [*]; done) | (simp [*]; rfl))) ?_ | refine OW.sv (SV.storeAs rfl (by first | rfl | assumption) rfl (by first | exact u32s_one _ | assumption) rfl (by first | assumption | exact (u32s_length _).trans (List.length_replicate ..) | exact (u32s_length _).trans (by assumption) | rfl | (simp; done) | (simp [*]; done) | (simp [*]; rfl)) (by first | assumption | (simp; done) | (simp; omega) | omega)) ?_)) | (refine OW.rot5 ?_; (first | refine OW.sv (SV.storeW rfl (by first | rfl | assumption) rfl (by first | exact u32s_one _ | assumption) rfl (by first | assumption | exact (u32s_length _).trans (List.length_replicate ..) | exact (u32s_length _).trans (by assumption) | rfl | (simp; done) | (simp [*]; done) | (simp [*]; rfl)) (by first | assumption | exact (u32s_length _).trans (List.length_replicate ..) | exact (u32s_length _).trans (by assumption) | rfl | (simp; done) | (simp [*]; done) | (simp [*]; rfl))) ?_ | refine OW.sv (SV.storeAs rfl (by first | rfl | assumption) rfl (by first | exact u32s_one _ | assumption) rfl (by first | assumption | exact (u32s_length _).trans (List.length_replicate ..) | exact (u32s_length _).trans (by assumption) | rfl | (simp; done) | (simp [*]; done) | (simp [*]; rfl)) (by first | assumption | (simp; done) | (simp; omega) | omega)) ?_)) | (refine OW.rot6 ?_; (first | refine OW.sv (SV.storeW rfl (by first | rfl | assumption) rfl (by first | exact u32s_one _ | assumption) rfl (by first | assumption | exact (u32s_length _).trans (List.length_replicate ..) | exact (u32s_length _).trans (by assumption) | rfl | (simp; done) | (simp [*]; done) | (simp [*]; rfl)) (by first | assumption | exact (u32s_length _).trans (List.length_replicate ..) | exact (u32s_length _).trans (by assumption) | rfl | (simp; done) | (simp [*]; done) | (simp [*]; rfl))) ?_ | refine OW.sv (SV.storeAs rfl (by first | rfl | assumption) rfl (by first | exact u32s_one _ | assumption) rfl (by first | assumption | exact (u32s_length _).trans (List.length_replicate ..) | exact (u32s_length _).trans (by assumption) | rfl | (simp; done) | (simp [*]; done) | (simp [*]; rfl)) (by first | assumption | (simp; done) | (simp; omega) | omega)) ?_)))
  refine OW.nil ?_
  (repeat (first | refine CW.seq ?_ | refine QW.then_n ?_ | refine CW.block ?_ | refine CW.ret ?_ | refine CW.skip ?_ | refine CW.exit ?_ | refine QW.then_x ?_ | refine QW.then_r ?_ | refine QW.block_n ?_ | refine QW.block_xe ?_ | refine QW.block_xn rfl ?_ | refine QW.block_r ?_))
  (repeat (first | refine CW.seq ?_ | refine QW.then_n ?_ | refine CW.block ?_ | refine CW.ret ?_ | refine CW.skip ?_ | refine CW.exit ?_ | refine QW.then_x ?_ | refine QW.then_r ?_ | refine QW.block_n ?_ | refine QW.block_xe ?_ | refine QW.block_xn rfl ?_ | refine QW.block_r ?_))
  refine CW.region ?_
  refine OW.rv (RV.assign rfl) rfl ?_
  refine OW.nil ?_
  (repeat (first | refine CW.seq ?_ | refine QW.then_n ?_ | refine CW.block ?_ | refine CW.ret ?_ | refine CW.skip ?_ | refine CW.exit ?_ | refine QW.then_x ?_ | refine QW.then_r ?_ | refine QW.block_n ?_ | refine QW.block_xe ?_ | refine QW.block_xn rfl ?_ | refine QW.block_r ?_))
  refine CW.loop (σ := Nat) (fun t => t ≤ 64) (fun t => [(2, .slice B 64 cb), (3, ptr (some b3) 0), (6, ptr (some b6) 0), (7, sl ow 0 64 cw), (8, ptr (some b8) 0), (9, .int .i64 (t : Int))])
    (fun t => (some b8, blk (u32s (runTo K W (St.of s) t).toL) 23) :: (ow, blk (u32s W ++ rw') 22) :: (some b6, blk (u32s z8) 23) :: (some b3, blk (u32s s) 23) :: M) (fun t => 64 - t) 0 (by omega) ⟨rfl, rfl, rfl, rfl, rfl, rfl, trivial⟩ (fun _ m => by rw [show (runTo K W (St.of s) 0).toL = s from St.of_toL hs]; exact m) ?_
  · intro t ht
    (repeat (first | refine CW.seq ?_ | refine QW.then_n ?_ | refine CW.block ?_ | refine CW.ret ?_ | refine CW.skip ?_ | refine CW.exit ?_ | refine QW.then_x ?_ | refine QW.then_r ?_ | refine QW.block_n ?_ | refine QW.block_xe ?_ | refine QW.block_xn rfl ?_ | refine QW.block_r ?_))
    refine CW.region ?_
    refine OW.rv (RV.move rfl) rfl ?_
    refine OW.rv (RV.lss rfl rfl) rfl ?_
    refine OW.nil ?_
    (repeat (first | refine CW.seq ?_ | refine QW.then_n ?_ | refine CW.block ?_ | refine CW.ret ?_ | refine CW.skip ?_ | refine CW.exit ?_ | refine QW.then_x ?_ | refine QW.then_r ?_ | refine QW.block_n ?_ | refine QW.block_xe ?_ | refine QW.block_xn rfl ?_ | refine QW.block_r ?_))
    (first | refine CW.cond_t rfl ?_ | refine CW.cond_f rfl ?_ | refine CW.cond_p rfl (fun hlt => ?_) (fun hlt => ?_) | refine CW.cond_np rfl (fun hlt => ?_) (fun hlt => ?_) | refine CW.cond rfl (fun hlt => ?_) (fun hlt => ?_))
    · have ht2 : t < 64 := by omega
      have gk : Mem.Says w0 M (fun w => w.cell? ((B.getD default).add t) = some (U32 (K.getD t 0#32))) := fun w m => (hB w m).cell (u32s_get (by omega))
      have gw : (u32s W ++ rw')[0 + t]? = some (U32 (W.getD t 0#32)) := by rw [Nat.zero_add, List.getElem?_append_left (by rw [u32s_length]; omega)]; exact u32s_get (by omega)
      have hstep : runTo K W (St.of s) (t + 1) = (runTo K W (St.of s) t).step (K.getD t 0#32) (W.getD t 0#32) := rfl
      generalize runTo K W (St.of s) t = S at hstep ⊢
      have hSl : S.toL.length = 8 := rfl
      have g0 : (u32s S.toL)[0 + 0]? = some (U32 S.a) := rfl
      have g1 : (u32s S.toL)[0 + 1]? = some (U32 S.b) := rfl
      have g2 : (u32s S.toL)[0 + 2]? = some (U32 S.c) := rfl
      have g3 : (u32s S.toL)[0 + 3]? = some (U32 S.d) := rfl
      have g4 : (u32s S.toL)[0 + 4]? = some (U32 S.e) := rfl
      have g5 : (u32s S.toL)[0 + 5]? = some (U32 S.f) := rfl
      have g6 : (u32s S.toL)[0 + 6]? = some (U32 S.g) := rfl
      have g7 : (u32s S.toL)[0 + 7]? = some (U32 S.h) := rfl
      (repeat (first | refine CW.seq ?_ | refine QW.then_n ?_ | refine CW.block ?_ | refine CW.ret ?_ | refine CW.skip ?_ | refine CW.exit ?_ | refine QW.then_x ?_ | refine QW.then_r ?_ | refine QW.block_n ?_ | refine QW.block_xe ?_ | refine QW.block_xn rfl ?_ | refine QW.block_r ?_))
      refine CW.region ?_
      (first | refine OW.rv (RV.idx_a _ rfl rfl rfl rfl rfl (by omega)) rfl ?_ | refine OW.rv (RV.idx_az rfl rfl (by omega) rfl rfl (by omega)) rfl ?_)
      (first | refine OW.rv (RV.load rfl (by (repeat (first | exact List.Mem.head _ | assumption | refine List.Mem.tail _ ?_)); done) (by first | rfl | assumption) rfl rfl (by first | rfl | assumption)) rfl ?_ | refine OW.rv (RV.load_at rfl rfl rfl (by (repeat (first | assumption | refine Mem.Says.cons ?_)); done)) rfl ?_)
      refine OW.rv (RV.assign rfl) rfl ?_
      refine OW.nil ?_
      (repeat (first | refine CW.seq ?_ | refine QW.then_n ?_ | refine CW.block ?_ | refine CW.ret ?_ | refine CW.skip ?_ | refine CW.exit ?_ | refine QW.then_x ?_ | refine QW.then_r ?_ | refine QW.block_n ?_ | refine QW.block_xe ?_ | refine QW.block_xn rfl ?_ | refine QW.block_r ?_))
      (repeat (first | refine CW.seq ?_ | refine QW.then_n ?_ | refine CW.block ?_ | refine CW.ret ?_ | refine CW.skip ?_ | refine CW.exit ?_ | refine QW.then_x ?_ | refine QW.then_r ?_ | refine QW.block_n ?_ | refine QW.block_xe ?_ | refine QW.block_xn rfl ?_ | refine QW.block_r ?_))
      refine CW.region ?_
      (first | refine OW.rv (RV.idx_a _ rfl rfl rfl rfl rfl (by omega)) rfl ?_ | refine OW.rv (RV.idx_az rfl rfl (by omega) rfl rfl (by omega)) rfl ?_)
      (first | refine OW.rv (RV.load rfl (by (repeat (first | exact List.Mem.head _ | assumption | refine List.Mem.tail _ ?_)); done) (by first | rfl | assumption) rfl rfl (by first | rfl | assumption)) rfl ?_ | refine OW.rv (RV.load_at rfl rfl rfl (by (repeat (first | assumption | refine Mem.Says.cons ?_)); done)) rfl ?_)
      refine OW.rv (RV.assign rfl) rfl ?_
      refine OW.nil ?_
      (repeat (first | refine CW.seq ?_ | refine QW.then_n ?_ | refine CW.block ?_ | refine CW.ret ?_ | refine CW.skip ?_ | refine CW.exit ?_ | refine QW.then_x ?_ | refine QW.then_r ?_ | refine QW.block_n ?_ | refine QW.block_xe ?_ | refine QW.block_xn rfl ?_ | refine QW.block_r ?_))
      (repeat (first | refine CW.seq ?_ | refine QW.then_n ?_ | refine CW.block ?_ | refine CW.ret ?_ | refine CW.skip ?_ | refine CW.exit ?_ | refine QW.then_x ?_ | refine QW.then_r ?_ | refine QW.block_n ?_ | refine QW.block_xe ?_ | refine QW.block_xn rfl ?_ | refine QW.block_r ?_))
      refine CW.region ?_
      (first | refine OW.rv (RV.idx_a _ rfl rfl rfl rfl rfl (by omega)) rfl ?_ | refine OW.rv (RV.idx_az rfl rfl (by omega) rfl rfl (by omega)) rfl ?_)
      (first | refine OW.rv (RV.load rfl (by (repeat (first | exact List.Mem.head _ | assumption | refine List.Mem.tail _ ?_)); done) (by first | rfl | assumption) rfl rfl (by first | rfl | assumption)) rfl ?_ | refine OW.rv (RV.load_at rfl rfl rfl (by (repeat (first | assumption | refine Mem.Says.cons ?_)); done)) rfl ?_)
      refine OW.rv (RV.assign rfl) rfl ?_
      refine OW.nil ?_
      (repeat (first | refine CW.seq ?_ | refine QW.then_n ?_ | refine CW.block ?_ | refine CW.ret ?_ | refine CW.skip ?_ | refine CW.exit ?_ | refine QW.then_x ?_ | refine QW.then_r ?_ | refine QW.block_n ?_ | refine QW.block_xe ?_ | refine QW.block_xn rfl ?_ | refine QW.block_r ?_))
      (repeat (first | refine CW.seq ?_ | refine QW.then_n ?_ | refine CW.block ?_ | refine CW.ret ?_ | refine CW.skip ?_ | refine CW.exit ?_ | refine QW.then_x ?_ | refine QW.then_r ?_ | refine QW.block_n ?_ | refine QW.block_xe ?_ | refine QW.block_xn rfl ?_ | refine QW.block_r ?_))
      refine CW.region ?_
      (first | refine OW.rv (RV.idx_a _ rfl rfl rfl rfl rfl (by omega)) rfl ?_ | refine OW.rv (RV.idx_az rfl rfl (by omega) rfl rfl (by omega)) rfl ?_)
      (first | refine OW.rv (RV.load rfl (by (repeat (first | exact List.Mem.head _ | assumption | refine List.Mem.tail _ ?_)); done) (by first | rfl | assumption) rfl rfl (by first | rfl | assumption)) rfl ?_ | refine OW.rv (RV.load_at rfl rfl rfl (by (repeat (first | assumption | refine Mem.Says.cons ?_)); done)) rfl ?_)
      refine OW.rv (RV.assign rfl) rfl ?_
      refine OW.nil ?_
      (repeat (first | refine CW.seq ?_ | refine QW.then_n ?_ | refine CW.block ?_ | refine CW.ret ?_ | refine CW.skip ?_ | refine CW.exit ?_ | refine QW.then_x ?_ | refine QW.then_r ?_ | refine QW.block_n ?_ | refine QW.block_xe ?_ | refine QW.block_xn rfl ?_ | refine QW.block_r ?_))
      (repeat (first | refine CW.seq ?_ | refine QW.then_n ?_ | refine CW.block ?_ | refine CW.ret ?_ | refine CW.skip ?_ | refine CW.exit ?_ | refine QW.then_x ?_ | refine QW.then_r ?_ | refine QW.block_n ?_ | refine QW.block_xe ?_ | refine QW.block_xn rfl ?_ | refine QW.block_r ?_))
      refine CW.draws mixed (by kernel_rfl) ?_
      (first | refine DW.rv (RV.idx_a _ rfl rfl rfl rfl rfl (by omega)) rfl ?_ | refine DW.rv (RV.idx_az rfl rfl (by omega) rfl rfl (by omega)) rfl ?_)
      (first | refine DW.rv (RV.load rfl (by (repeat (first | exact List.Mem.head _ | assumption | refine List.Mem.tail _ ?_)); done) (by first | rfl | assumption) rfl rfl (by first | rfl | assumption)) rfl ?_ | refine DW.rv (RV.load_at rfl rfl rfl (by (repeat (first | assumption | refine Mem.Says.cons ?_)); done)) rfl ?_)
      refine DW.rv (RV.move rfl) rfl ?_
      refine DW.call _ Tryd.call55 rfl (turned_does w0 _ _ 6#64 6 (by decide) (by decide)) (fun _ _ => rfl) (fun _ _ _ m => m) rfl ?_
      refine DW.rv (RV.move rfl) rfl ?_
      refine DW.call _ Tryd.call55 rfl (turned_does w0 _ _ 11#64 11 (by decide) (by decide)) (fun _ _ => rfl) (fun _ _ _ m => m) rfl ?_
      refine DW.rv (RV.xor32 rfl (by first | rfl | exact lit32 _ rfl) rfl (by first | rfl | exact lit32 _ rfl)) rfl ?_
      refine DW.rv (RV.move rfl) rfl ?_
      refine DW.call _ Tryd.call55 rfl (turned_does w0 _ _ 25#64 25 (by decide) (by decide)) (fun _ _ => rfl) (fun _ _ _ m => m) rfl ?_
      refine DW.rv (RV.xor32 rfl (by first | rfl | exact lit32 _ rfl) rfl (by first | rfl | exact lit32 _ rfl)) rfl ?_
      refine DW.rv (RV.add32 rfl (by first | rfl | exact lit32 _ rfl) rfl (by first | rfl | exact lit32 _ rfl)) rfl ?_
      refine DW.rv (RV.move rfl) rfl ?_
      (first | refine DW.rv (RV.idx_a _ rfl rfl rfl rfl rfl (by omega)) rfl ?_ | refine DW.rv (RV.idx_az rfl rfl (by omega) rfl rfl (by omega)) rfl ?_)
      (first | refine DW.rv (RV.load rfl (by (repeat (first | exact List.Mem.head _ | assumption | refine List.Mem.tail _ ?_)); done) (by first | rfl | assumption) rfl rfl (by first | rfl | assumption)) rfl ?_ | refine DW.rv (RV.load_at rfl rfl rfl (by (repeat (first | assumption | refine Mem.Says.cons ?_)); done)) rfl ?_)
      refine DW.rv (RV.and32 rfl (by first | rfl | exact lit32 _ rfl) rfl (by first | rfl | exact lit32 _ rfl)) rfl ?_
      refine DW.rv (RV.move rfl) rfl ?_
      refine DW.rv (RV.compl32 rfl (by first | rfl | exact lit32 _ rfl)) rfl ?_
      (first | refine DW.rv (RV.idx_a _ rfl rfl rfl rfl rfl (by omega)) rfl ?_ | refine DW.rv (RV.idx_az rfl rfl (by omega) rfl rfl (by omega)) rfl ?_)
      (first | refine DW.rv (RV.load rfl (by (repeat (first | exact List.Mem.head _ | assumption | refine List.Mem.tail _ ?_)); done) (by first | rfl | assumption) rfl rfl (by first | rfl | assumption)) rfl ?_ | refine DW.rv (RV.load_at rfl rfl rfl (by (repeat (first | assumption | refine Mem.Says.cons ?_)); done)) rfl ?_)
      refine DW.rv (RV.and32 rfl (by first | rfl | exact lit32 _ rfl) rfl (by first | rfl | exact lit32 _ rfl)) rfl ?_
      refine DW.rv (RV.xor32 rfl (by first | rfl | exact lit32 _ rfl) rfl (by first | rfl | exact lit32 _ rfl)) rfl ?_
      refine DW.rv (RV.add32 rfl (by first | rfl | exact lit32 _ rfl) rfl (by first | rfl | exact lit32 _ rfl)) rfl ?_
      refine DW.rv (RV.move rfl) rfl ?_
      refine DW.rv (RV.move rfl) rfl ?_
      (first | refine DW.rv (RV.idx_o _ rfl rfl rfl rfl rfl (by first | rfl | assumption) (by omega)) rfl ?_ | refine DW.rv (RV.idx_r _ rfl rfl rfl rfl rfl (by first | rfl | assumption) (by omega)) rfl ?_ | refine DW.rv (RV.idx_oz rfl rfl (by omega) rfl rfl (by first | rfl | assumption) (by omega)) rfl ?_ | refine DW.rv (RV.idx_rz rfl rfl (by omega) rfl rfl (by first | rfl | assumption) (by omega)) rfl ?_)
      (first | refine DW.rv (RV.load rfl (by (repeat (first | exact List.Mem.head _ | assumption | refine List.Mem.tail _ ?_)); done) (by first | rfl | assumption) rfl rfl (by first | rfl | assumption)) rfl ?_ | refine DW.rv (RV.load_at rfl rfl rfl (by (repeat (first | assumption | refine Mem.Says.cons ?_)); done)) rfl ?_)
      refine DW.rv (RV.add32 rfl (by first | rfl | exact lit32 _ rfl) rfl (by first | rfl | exact lit32 _ rfl)) rfl ?_
      refine DW.rv (RV.move rfl) rfl ?_
      refine DW.rv (RV.move rfl) rfl ?_
      (first | refine DW.rv (RV.idx_o _ rfl rfl rfl rfl rfl (by first | rfl | assumption) (by omega)) rfl ?_ | refine DW.rv (RV.idx_r _ rfl rfl rfl rfl rfl (by first | rfl | assumption) (by omega)) rfl ?_ | refine DW.rv (RV.idx_oz rfl rfl (by omega) rfl rfl (by first | rfl | assumption) (by omega)) rfl ?_ | refine DW.rv (RV.idx_rz rfl rfl (by omega) rfl rfl (by first | rfl | assumption) (by omega)) rfl ?_)
      (first | refine DW.rv (RV.load rfl (by (repeat (first | exact List.Mem.head _ | assumption | refine List.Mem.tail _ ?_)); done) (by first | rfl | assumption) rfl rfl (by first | rfl | assumption)) rfl ?_ | refine DW.rv (RV.load_at rfl rfl rfl (by (repeat (first | assumption | refine Mem.Says.cons ?_)); done)) rfl ?_)
      refine DW.rv (RV.add32 rfl (by first | rfl | exact lit32 _ rfl) rfl (by first | rfl | exact lit32 _ rfl)) rfl ?_
      refine DW.rv (RV.assign rfl) rfl ?_
      refine DW.nil ?_
      (repeat (first | refine CW.seq ?_ | refine QW.then_n ?_ | refine CW.block ?_ | refine CW.ret ?_ | refine CW.skip ?_ | refine CW.exit ?_ | refine QW.then_x ?_ | refine QW.then_r ?_ | refine QW.block_n ?_ | refine QW.block_xe ?_ | refine QW.block_xn rfl ?_ | refine QW.block_r ?_))
      (repeat (first | refine CW.seq ?_ | refine QW.then_n ?_ | refine CW.block ?_ | refine CW.ret ?_ | refine CW.skip ?_ | refine CW.exit ?_ | refine QW.then_x ?_ | refine QW.then_r ?_ | refine QW.block_n ?_ | refine QW.block_xe ?_ | refine QW.block_xn rfl ?_ | refine QW.block_r ?_))
      refine CW.region ?_
      refine OW.rv (RV.move rfl) rfl ?_
      refine OW.call Tryd.call55 rfl (turned_does w0 _ _ 2#64 2 (by decide) (by decide)) rfl (fun u hu => ?_)
      refine OW.rv (RV.move rfl) rfl ?_
      refine OW.call Tryd.call55 rfl (turned_does w0 _ _ 13#64 13 (by decide) (by decide)) rfl (fun u hu => ?_)
      refine OW.rv (RV.xor32 rfl (by first | rfl | exact lit32 _ rfl) rfl (by first | rfl | exact lit32 _ rfl)) rfl ?_
      refine OW.rv (RV.move rfl) rfl ?_
      refine OW.call Tryd.call55 rfl (turned_does w0 _ _ 22#64 22 (by decide) (by decide)) rfl (fun u hu => ?_)
      refine OW.rv (RV.xor32 rfl (by first | rfl | exact lit32 _ rfl) rfl (by first | rfl | exact lit32 _ rfl)) rfl ?_
      refine OW.rv (RV.move rfl) rfl ?_
      refine OW.rv (RV.move rfl) rfl ?_
      refine OW.rv (RV.and32 rfl (by first | rfl | exact lit32 _ rfl) rfl (by first | rfl | exact lit32 _ rfl)) rfl ?_
      refine OW.rv (RV.move rfl) rfl ?_
      refine OW.rv (RV.move rfl) rfl ?_
      refine OW.rv (RV.and32 rfl (by first | rfl | exact lit32 _ rfl) rfl (by first | rfl | exact lit32 _ rfl)) rfl ?_
      refine OW.rv (RV.xor32 rfl (by first | rfl | exact lit32 _ rfl) rfl (by first | rfl | exact lit32 _ rfl)) rfl ?_
      refine OW.rv (RV.move rfl) rfl ?_
      refine OW.rv (RV.move rfl) rfl ?_
      refine OW.rv (RV.and32 rfl (by first | rfl | exact lit32 _ rfl) rfl (by first | rfl | exact lit32 _ rfl)) rfl ?_
      refine OW.rv (RV.xor32 rfl (by first | rfl | exact lit32 _ rfl) rfl (by first | rfl | exact lit32 _ rfl)) rfl ?_
      refine OW.rv (RV.add32 rfl (by first | rfl | exact lit32 _ rfl) rfl (by first | rfl | exact lit32 _ rfl)) rfl ?_
      refine OW.rv (RV.assign rfl) rfl ?_
      refine OW.nil ?_
      (repeat (first | refine CW.seq ?_ | refine QW.then_n ?_ | refine CW.block ?_ | refine CW.ret ?_ | refine CW.skip ?_ | refine CW.exit ?_ | refine QW.then_x ?_ | refine QW.then_r ?_ | refine QW.block_n ?_ | refine QW.block_xe ?_ | refine QW.block_xn rfl ?_ | refine QW.block_r ?_))
      (repeat (first | refine CW.seq ?_ | refine QW.then_n ?_ | refine CW.block ?_ | refine CW.ret ?_ | refine CW.skip ?_ | refine CW.exit ?_ | refine QW.then_x ?_ | refine QW.then_r ?_ | refine QW.block_n ?_ | refine QW.block_xe ?_ | refine QW.block_xn rfl ?_ | refine QW.block_r ?_))
      refine CW.region ?_
      refine OW.alloc (l := u32s (List.replicate 8 0#32)) rfl (by rw [← u32s_rep]; rfl) rfl (fun b16 => ?_)
      refine OW.nil ?_
      (repeat (first | refine CW.seq ?_ | refine QW.then_n ?_ | refine CW.block ?_ | refine CW.ret ?_ | refine CW.skip ?_ | refine CW.exit ?_ | refine QW.then_x ?_ | refine QW.then_r ?_ | refine QW.block_n ?_ | refine QW.block_xe ?_ | refine QW.block_xn rfl ?_ | refine QW.block_r ?_))
      (repeat (first | refine CW.seq ?_ | refine QW.then_n ?_ | refine CW.block ?_ | refine CW.ret ?_ | refine CW.skip ?_ | refine CW.exit ?_ | refine QW.then_x ?_ | refine QW.then_r ?_ | refine QW.block_n ?_ | refine QW.block_xe ?_ | refine QW.block_xn rfl ?_ | refine QW.block_r ?_))
      refine CW.region ?_
      refine OW.rv (RV.assign rfl) rfl ?_
      refine OW.nil ?_
      (repeat (first | refine CW.seq ?_ | refine QW.then_n ?_ | refine CW.block ?_ | refine CW.ret ?_ | refine CW.skip ?_ | refine CW.exit ?_ | refine QW.then_x ?_ | refine QW.then_r ?_ | refine QW.block_n ?_ | refine QW.block_xe ?_ | refine QW.block_xn rfl ?_ | refine QW.block_r ?_))
      refine CW.loop (σ := Nat × List (BitVec 32)) (fun x => 1 ≤ x.1 ∧ x.1 ≤ 8 ∧ x.2.length = 8 ∧ ∀ m, 1 ≤ m → m < x.1 → x.2.getD m 0#32 = S.toL.getD (m - 1) 0#32) (fun x => [(2, .slice B 64 cb), (3, ptr (some b3) 0), (6, ptr (some b6) 0), (7, sl ow 0 64 cw), (8, ptr (some b8) 0), (9, .int .i64 (t : Int)), (14, U32 (S.t1 (K.getD t 0#32) (W.getD t 0#32))), (15, U32 S.t2), (16, ptr (some b16) 0), (17, .int .i64 (x.1 : Int))])
        (fun x => (some b16, blk (u32s x.2) 23) :: (some b8, blk (u32s S.toL) 23) :: (ow, blk (u32s W ++ rw') 22) :: (some b6, blk (u32s z8) 23) :: (some b3, blk (u32s s) 23) :: M) (fun x => 8 - x.1) (1, z8) ⟨by simp, by simp, rfl, fun m h1 h2 => by omega⟩ ⟨rfl, rfl, rfl, rfl, rfl, rfl, rfl, rfl, rfl, rfl, trivial⟩ (fun _ m => m) ?_
      rintro ⟨i, nl⟩ ⟨hi1, hi8, hnl, hnm⟩
      dsimp only at hi1 hi8 hnl hnm ⊢
      (repeat (first | refine CW.seq ?_ | refine QW.then_n ?_ | refine CW.block ?_ | refine CW.ret ?_ | refine CW.skip ?_ | refine CW.exit ?_ | refine QW.then_x ?_ | refine QW.then_r ?_ | refine QW.block_n ?_ | refine QW.block_xe ?_ | refine QW.block_xn rfl ?_ | refine QW.block_r ?_))
      refine CW.region ?_
      refine OW.rv (RV.move rfl) rfl ?_
      refine OW.rv (RV.lss rfl rfl) rfl ?_
      refine OW.nil ?_
      (repeat (first | refine CW.seq ?_ | refine QW.then_n ?_ | refine CW.block ?_ | refine CW.ret ?_ | refine CW.skip ?_ | refine CW.exit ?_ | refine QW.then_x ?_ | refine QW.then_r ?_ | refine QW.block_n ?_ | refine QW.block_xe ?_ | refine QW.block_xn rfl ?_ | refine QW.block_r ?_))
      (first | refine CW.cond_t rfl ?_ | refine CW.cond_f rfl ?_ | refine CW.cond_p rfl (fun hilt => ?_) (fun hilt => ?_) | refine CW.cond_np rfl (fun hilt => ?_) (fun hilt => ?_) | refine CW.cond rfl (fun hilt => ?_) (fun hilt => ?_))
      · have hi2 : i < 8 := by omega
        have gi : (u32s S.toL)[0 + ((i : Int) - 1).toNat]? = some (U32 (S.toL.getD (i - 1) 0#32)) := by rw [show 0 + ((i : Int) - 1).toNat = i - 1 by omega]; exact u32s_get (by omega)
        have hl2 : 0 + i < (u32s nl).length := by rw [u32s_length]; omega
        (repeat (first | refine CW.seq ?_ | refine QW.then_n ?_ | refine CW.block ?_ | refine CW.ret ?_ | refine CW.skip ?_ | refine CW.exit ?_ | refine QW.then_x ?_ | refine QW.then_r ?_ | refine QW.block_n ?_ | refine QW.block_xe ?_ | refine QW.block_xn rfl ?_ | refine QW.block_r ?_))
        refine CW.region ?_
        refine OW.rv (RV.move rfl) rfl ?_
        refine OW.rv (RV.move rfl) rfl ?_
        refine OW.rv (RV.sub rfl rfl (by omega)) rfl ?_
        (first | refine OW.rv (RV.idx_a _ rfl rfl rfl rfl rfl (by omega)) rfl ?_ | refine OW.rv (RV.idx_az rfl rfl (by omega) rfl rfl (by omega)) rfl ?_)
        (first | refine OW.rv (RV.load rfl (by (repeat (first | exact List.Mem.head _ | assumption | refine List.Mem.tail _ ?_)); done) (by first | rfl | assumption) rfl rfl (by first | rfl | assumption)) rfl ?_ | refine OW.rv (RV.load_at rfl rfl rfl (by (repeat (first | assumption | refine Mem.Says.cons ?_)); done)) rfl ?_)
        (first | refine OW.rv (RV.idx_a _ rfl rfl rfl rfl rfl (by omega)) rfl ?_ | refine OW.rv (RV.idx_az rfl rfl (by omega) rfl rfl (by omega)) rfl ?_)
        (first | refine OW.sv (SV.store rfl (by first | rfl | assumption) rfl rfl rfl (by first | assumption | (simp; done) | (simp; omega) | omega)) ?_ | (refine OW.rot1 ?_; refine OW.sv (SV.store rfl (by first | rfl | assumption) rfl rfl rfl (by first | assumption | (simp; done) | (simp; omega) | omega)) ?_) | (refine OW.rot2 ?_; refine OW.sv (SV.store rfl (by first | rfl | assumption) rfl rfl rfl (by first | assumption | (simp; done) | (simp; omega) | omega)) ?_) | (refine OW.rot3 ?_; refine OW.sv (SV.store rfl (by first | rfl | assumption) rfl rfl rfl (by first | assumption | (simp; done) | (simp; omega) | omega)) ?_) | (refine OW.rot4 ?_; refine OW.sv (SV.store rfl (by first | rfl | assumption) rfl rfl rfl (by first | assumption | (simp; done) | (simp; omega) | omega)) ?_))
        refine OW.nil ?_
        (repeat (first | refine CW.seq ?_ | refine QW.then_n ?_ | refine CW.block ?_ | refine CW.ret ?_ | refine CW.skip ?_ | refine CW.exit ?_ | refine QW.then_x ?_ | refine QW.then_r ?_ | refine QW.block_n ?_ | refine QW.block_xe ?_ | refine QW.block_xn rfl ?_ | refine QW.block_r ?_))
        (repeat (first | refine CW.seq ?_ | refine QW.then_n ?_ | refine CW.block ?_ | refine CW.ret ?_ | refine CW.skip ?_ | refine CW.exit ?_ | refine QW.then_x ?_ | refine QW.then_r ?_ | refine QW.block_n ?_ | refine QW.block_xe ?_ | refine QW.block_xn rfl ?_ | refine QW.block_r ?_))
        refine CW.region ?_
        refine OW.rv (RV.move rfl) rfl ?_
        refine OW.rv (RV.add rfl rfl (by omega)) rfl ?_
        refine OW.rv (RV.assign rfl) rfl ?_
        refine OW.nil ?_
        (repeat (first | refine CW.seq ?_ | refine QW.then_n ?_ | refine CW.block ?_ | refine CW.ret ?_ | refine CW.skip ?_ | refine CW.exit ?_ | refine QW.then_x ?_ | refine QW.then_r ?_ | refine QW.block_n ?_ | refine QW.block_xe ?_ | refine QW.block_xn rfl ?_ | refine QW.block_r ?_))
        refine QW.again (i + 1, nl.set i (S.toL.getD (i - 1) 0#32)) ⟨by show 1 ≤ i + 1; omega, by show i + 1 ≤ 8; omega, by simp [hnl], fun m h1 h2 => ?_⟩ (by show 8 - (i + 1) < 8 - i; omega) ⟨rfl, rfl, rfl, rfl, rfl, rfl, rfl, rfl, rfl, rfl, trivial⟩ (fun _ m => ?_)
        · have h2' : m < i + 1 := h2
          show (nl.set i (S.toL.getD (i - 1) 0#32)).getD m 0#32 = _
          simp only [List.getD, List.getElem?_set]
          by_cases hm : i = m
          · subst hm; simp [hnl, hi2]
          · rw [if_neg hm]; exact hnm m h1 (by omega)
        · rw [Nat.zero_add, u32s_set'] at m
          exact m
      have hi2 : i = 8 := by omega
      subst hi2
      have en : nl = [nl.getD 0 0#32, S.a, S.b, S.c, S.d, S.e, S.f, S.g] := by
        have h := list8 hnl
        rw [hnm 1 (by decide) (by decide), hnm 2 (by decide) (by decide), hnm 3 (by decide) (by decide), hnm 4 (by decide) (by decide), hnm 5 (by decide) (by decide), hnm 6 (by decide) (by decide), hnm 7 (by decide) (by decide)] at h
        exact h
      generalize nl.getD 0 0#32 = n0 at en
      subst en
      have hl0 : 0 + 0 < (u32s [n0, S.a, S.b, S.c, S.d, S.e, S.f, S.g]).length := Nat.zero_lt_succ _
      have hl4 : 0 + 4 < ((u32s [n0, S.a, S.b, S.c, S.d, S.e, S.f, S.g]).set (0 + 0) (U32 (S.t1 (K.getD t 0#32) (W.getD t 0#32) + S.t2))).length := by rw [List.length_set]; exact (by decide : 4 < 8)
      (repeat (first | refine CW.seq ?_ | refine QW.then_n ?_ | refine CW.block ?_ | refine CW.ret ?_ | refine CW.skip ?_ | refine CW.exit ?_ | refine QW.then_x ?_ | refine QW.then_r ?_ | refine QW.block_n ?_ | refine QW.block_xe ?_ | refine QW.block_xn rfl ?_ | refine QW.block_r ?_))
      refine CW.region ?_
      refine OW.rv (RV.move rfl) rfl ?_
      refine OW.rv (RV.move rfl) rfl ?_
      refine OW.rv (RV.add32 rfl (by first | rfl | exact lit32 _ rfl) rfl (by first | rfl | exact lit32 _ rfl)) rfl ?_
      (first | refine OW.rv (RV.idx_a _ rfl rfl rfl rfl rfl (by omega)) rfl ?_ | refine OW.rv (RV.idx_az rfl rfl (by omega) rfl rfl (by omega)) rfl ?_)
      (first | refine OW.sv (SV.store rfl (by first | rfl | assumption) rfl rfl rfl (by first | assumption | (simp; done) | (simp; omega) | omega)) ?_ | (refine OW.rot1 ?_; refine OW.sv (SV.store rfl (by first | rfl | assumption) rfl rfl rfl (by first | assumption | (simp; done) | (simp; omega) | omega)) ?_) | (refine OW.rot2 ?_; refine OW.sv (SV.store rfl (by first | rfl | assumption) rfl rfl rfl (by first | assumption | (simp; done) | (simp; omega) | omega)) ?_) | (refine OW.rot3 ?_; refine OW.sv (SV.store rfl (by first | rfl | assumption) rfl rfl rfl (by first | assumption | (simp; done) | (simp; omega) | omega)) ?_) | (refine OW.rot4 ?_; refine OW.sv (SV.store rfl (by first | rfl | assumption) rfl rfl rfl (by first | assumption | (simp; done) | (simp; omega) | omega)) ?_))
      refine OW.nil ?_
      (repeat (first | refine CW.seq ?_ | refine QW.then_n ?_ | refine CW.block ?_ | refine CW.ret ?_ | refine CW.skip ?_ | refine CW.exit ?_ | refine QW.then_x ?_ | refine QW.then_r ?_ | refine QW.block_n ?_ | refine QW.block_xe ?_ | refine QW.block_xn rfl ?_ | refine QW.block_r ?_))
      (repeat (first | refine CW.seq ?_ | refine QW.then_n ?_ | refine CW.block ?_ | refine CW.ret ?_ | refine CW.skip ?_ | refine CW.exit ?_ | refine QW.then_x ?_ | refine QW.then_r ?_ | refine QW.block_n ?_ | refine QW.block_xe ?_ | refine QW.block_xn rfl ?_ | refine QW.block_r ?_))
      refine CW.region ?_
      (first | refine OW.rv (RV.idx_a _ rfl rfl rfl rfl rfl (by omega)) rfl ?_ | refine OW.rv (RV.idx_az rfl rfl (by omega) rfl rfl (by omega)) rfl ?_)
      (first | refine OW.rv (RV.load rfl (by (repeat (first | exact List.Mem.head _ | assumption | refine List.Mem.tail _ ?_)); done) (by first | rfl | assumption) rfl rfl (by first | rfl | assumption)) rfl ?_ | refine OW.rv (RV.load_at rfl rfl rfl (by (repeat (first | assumption | refine Mem.Says.cons ?_)); done)) rfl ?_)
      refine OW.rv (RV.move rfl) rfl ?_
      refine OW.rv (RV.add32 rfl (by first | rfl | exact lit32 _ rfl) rfl (by first | rfl | exact lit32 _ rfl)) rfl ?_
      (first | refine OW.rv (RV.idx_a _ rfl rfl rfl rfl rfl (by omega)) rfl ?_ | refine OW.rv (RV.idx_az rfl rfl (by omega) rfl rfl (by omega)) rfl ?_)
      (first | refine OW.sv (SV.store rfl (by first | rfl | assumption) rfl rfl rfl (by first | assumption | (simp; done) | (simp; omega) | omega)) ?_ | (refine OW.rot1 ?_; refine OW.sv (SV.store rfl (by first | rfl | assumption) rfl rfl rfl (by first | assumption | (simp; done) | (simp; omega) | omega)) ?_) | (refine OW.rot2 ?_; refine OW.sv (SV.store rfl (by first | rfl | assumption) rfl rfl rfl (by first | assumption | (simp; done) | (simp; omega) | omega)) ?_) | (refine OW.rot3 ?_; refine OW.sv (SV.store rfl (by first | rfl | assumption) rfl rfl rfl (by first | assumption | (simp; done) | (simp; omega) | omega)) ?_) | (refine OW.rot4 ?_; refine OW.sv (SV.store rfl (by first | rfl | assumption) rfl rfl rfl (by first | assumption | (simp; done) | (simp; omega) | omega)) ?_))
      refine OW.nil ?_
      (repeat (first | refine CW.seq ?_ | refine QW.then_n ?_ | refine CW.block ?_ | refine CW.ret ?_ | refine CW.skip ?_ | refine CW.exit ?_ | refine QW.then_x ?_ | refine QW.then_r ?_ | refine QW.block_n ?_ | refine QW.block_xe ?_ | refine QW.block_xn rfl ?_ | refine QW.block_r ?_))
      refine CW.mem (M' := (some b16, blk (u32s (S.step (K.getD t 0#32) (W.getD t 0#32)).toL) 23) :: (some b8, blk (u32s S.toL) 23) :: (ow, blk (u32s W ++ rw') 22) :: (some b6, blk (u32s z8) 23) :: (some b3, blk (u32s s) 23) :: M) (fun _ m => m) ?_
      have hSl2 : (S.step (K.getD t 0#32) (W.getD t 0#32)).toL.length = 8 := rfl
      (repeat (first | refine CW.seq ?_ | refine QW.then_n ?_ | refine CW.block ?_ | refine CW.ret ?_ | refine CW.skip ?_ | refine CW.exit ?_ | refine QW.then_x ?_ | refine QW.then_r ?_ | refine QW.block_n ?_ | refine QW.block_xe ?_ | refine QW.block_xn rfl ?_ | refine QW.block_r ?_))
      refine CW.region ?_
      (first | refine OW.rv (RV.loadW rfl (by (repeat (first | exact List.Mem.head _ | assumption | refine List.Mem.tail _ ?_)); done) (by first | rfl | assumption) rfl rfl rfl (by first | assumption | exact (u32s_length _).trans (List.length_replicate ..) | exact (u32s_length _).trans (by assumption) | rfl | (simp; done) | (simp [*]; done) | (simp [*]; rfl))) rfl ?_ | refine OW.rv (RV.loadAo rfl (by (repeat (first | exact List.Mem.head _ | assumption | refine List.Mem.tail _ ?_)); done) (by first | rfl | assumption) rfl rfl rfl (by assumption) (by first | assumption | exact (u32s_length _).trans (List.length_replicate ..) | exact (u32s_length _).trans (by assumption) | rfl | (simp; done) | (simp [*]; done) | (simp [*]; rfl))) rfl ?_ | refine OW.rv (RV.loadAs rfl rfl rfl rfl (by (repeat (first | assumption | refine Mem.Says.cons ?_)); done) (by first | assumption | exact (u32s_length _).trans (List.length_replicate ..) | exact (u32s_length _).trans (by assumption) | rfl | (simp; done) | (simp [*]; done) | (simp [*]; rfl))) rfl ?_)
      (first | (first | refine OW.sv (SV.storeW rfl (by first | rfl | assumption) rfl (by first | exact u32s_one _ | assumption) rfl (by first | assumption | exact (u32s_length _).trans (List.length_replicate ..) | exact (u32s_length _).trans (by assumption) | rfl | (simp; done) | (simp [*]; done) | (simp [*]; rfl)) (by first | assumption | exact (u32s_length _).trans (List.length_replicate ..) | exact (u32s_length _).trans (by assumption) | rfl | (simp; done) | (simp [*]; done) | (simp [*]; rfl))) ?_ | refine OW.sv (SV.storeAs rfl (by first | rfl | assumption) rfl (by first | exact u32s_one _ | assumption) rfl (by first | assumption | exact (u32s_length _).trans (List.length_replicate ..) | exact (u32s_length _).trans (by assumption) | rfl | (simp; done) | (simp [*]; done) | (simp [*]; rfl)) (by first | assumption | (simp; done) | (simp; omega) | omega)) ?_) | (refine OW.rot1 ?_; (first | refine OW.sv (SV.storeW rfl (by first | rfl | assumption) rfl (by first | exact u32s_one _ | assumption) rfl (by first | assumption | exact (u32s_length _).trans (List.length_replicate ..) | exact (u32s_length _).trans (by assumption) | rfl | (simp; done) | (simp [*]; done) | (simp [*]; rfl)) (by first | assumption | exact (u32s_length _).trans (List.length_replicate ..) | exact (u32s_length _).trans (by assumption) | rfl | (simp; done) | (simp [*]; done) | (simp [*]; rfl))) ?_ | refine OW.sv (SV.storeAs rfl (by first | rfl | assumption) rfl (by first | exact u32s_one _ | assumption) rfl (by first | assumption | exact (u32s_length _).trans (List.length_replicate ..) | exact (u32s_length _).trans (by assumption) | rfl | (simp; done) | (simp [*]; done) | (simp [*]; rfl)) (by first | assumption | (simp; done) | (simp; omega) | omega)) ?_)) | (refine OW.rot2 ?_; (first | refine OW.sv (SV.storeW rfl (by first | rfl | assumption) rfl (by first | exact u32s_one _ | assumption) rfl (by first | assumption | exact (u32s_length _).trans (List.length_replicate ..) | exact (u32s_length _).trans (by assumption) | rfl | (simp; done) | (simp [*]; done) | (simp [*]; rfl)) (by first | assumption | exact (u32s_length _).trans (List.length_replicate ..) | exact (u32s_length _).trans (by assumption) | rfl | (simp; done) | (simp [*]; done) | (simp [*]; rfl))) ?_ | refine OW.sv (SV.storeAs rfl (by first | rfl | assumption) rfl (by first | exact u32s_one _ | assumption) rfl (by first | assumption | exact (u32s_length _).trans (List.length_replicate ..) | exact (u32s_length _).trans (by assumption) | rfl | (simp; done) | (simp [*]; done) | (simp [*]; rfl)) (by first | assumption | (simp; done) | (simp; omega) | omega)) ?_)) | (refine OW.rot3 ?_; (first | refine OW.sv (SV.storeW rfl (by first | rfl | assumption) rfl (by first | exact u32s_one _ | assumption) rfl (by first | assumption | exact (u32s_length _).trans (List.length_replicate ..) | exact (u32s_length _).trans (by assumption) | rfl | (simp; done) | (simp [*]; done) | (simp [*]; rfl)) (by first | assumption | exact (u32s_length _).trans (List.length_replicate ..) | exact (u32s_length _).trans (by assumption) | rfl | (simp; done) | (simp [*]; done) | (simp [*]; rfl))) ?_ | refine OW.sv (SV.storeAs rfl (by first | rfl | assumption) rfl (by first | exact u32s_one _ | assumption) rfl (by first | assumption | exact (u32s_length _).trans (List.length_replicate ..) | exact (u32s_length _).trans (by assumption) | rfl | (simp; done) | (simp [*]; done) | (simp [*]; rfl)) (by first | assumption | (simp; done) | (simp; omega) | omega)) ?_)) | (refine OW.rot4 ?_; (first | refine OW.sv (SV.storeW rfl (by first | rfl | assumption) rfl (by first | exact u32s_one _ | assumption) rfl (by first | assumption | exact (u32s_length _).trans (List.length_replicate ..) | exact (u32s_length _).trans (by assumption) | rfl | (simp; done) | (simp [*]; done) | (simp [*]; rfl)) (by first | assumption | exact (u32s_length _).trans (List.length_replicate ..) | exact (u32s_length _).trans (by assumption) | rfl | (simp; done) | (simp [*]; done) | (simp [*]; rfl))) ?_ | refine OW.sv (SV.storeAs rfl (by first | rfl | assumption) rfl (by first | exact u32s_one _ | assumption) rfl (by first | assumption | exact (u32s_length _).trans (List.length_replicate ..) | exact (u32s_length _).trans (by assumption) | rfl | (simp; done) | (simp [*]; done) | (simp [*]; rfl)) (by first | assumption | (simp; done) | (simp; omega) | omega)) ?_)) | (refine OW.rot5 ?_; (first | refine OW.sv (SV.storeW rfl (by first | rfl | assumption) rfl (by first | exact u32s_one _ | assumption) rfl (by first | assumption | exact (u32s_length _).trans (List.length_replicate ..) | exact (u32s_length _).trans (by assumption) | rfl | (simp; done) | (simp [*]; done) | (simp [*]; rfl)) (by first | assumption | exact (u32s_length _).trans (List.length_replicate ..) | exact (u32s_length _).trans (by assumption) | rfl | (simp; done) | (simp [*]; done) | (simp [*]; rfl))) ?_ | refine OW.sv (SV.storeAs rfl (by first | rfl | assumption) rfl (by first | exact u32s_one _ | assumption) rfl (by first | assumption | exact (u32s_length _).trans (List.length_replicate ..) | exact (u32s_length _).trans (by assumption) | rfl | (simp; done) | (simp [*]; done) | (simp [*]; rfl)) (by first | assumption | (simp; done) | (simp; omega) | omega)) ?_)) | (refine OW.rot6 ?_; (first | refine OW.sv (SV.storeW rfl (by first | rfl | assumption) rfl (by first | exact u32s_one _ | assumption) rfl (by first | assumption | exact (u32s_length _).trans (List.length_replicate ..) | exact (u32s_length _).trans (by assumption) | rfl | (simp; done) | (simp [*]; done) | (simp [*]; rfl)) (by first | assumption | exact (u32s_length _).trans (List.length_replicate ..) | exact (u32s_length _).trans (by assumption) | rfl | (simp; done) | (simp [*]; done) | (simp [*]; rfl))) ?_ | refine OW.sv (SV.storeAs rfl (by first | rfl | assumption) rfl (by first | exact u32s_one _ | assumption) rfl (by first | assumption | exact (u32s_length _).trans (List.length_replicate ..) | exact (u32s_length _).trans (by assumption) | rfl | (simp; done) | (simp [*]; done) | (simp [*]; rfl)) (by first | assumption | (simp; done) | (simp; omega) | omega)) ?_)))
      refine OW.nil ?_
      (repeat (first | refine CW.seq ?_ | refine QW.then_n ?_ | refine CW.block ?_ | refine CW.ret ?_ | refine CW.skip ?_ | refine CW.exit ?_ | refine QW.then_x ?_ | refine QW.then_r ?_ | refine QW.block_n ?_ | refine QW.block_xe ?_ | refine QW.block_xn rfl ?_ | refine QW.block_r ?_))
      (repeat (first | refine CW.seq ?_ | refine QW.then_n ?_ | refine CW.block ?_ | refine CW.ret ?_ | refine CW.skip ?_ | refine CW.exit ?_ | refine QW.then_x ?_ | refine QW.then_r ?_ | refine QW.block_n ?_ | refine QW.block_xe ?_ | refine QW.block_xn rfl ?_ | refine QW.block_r ?_))
      refine CW.region ?_
      refine OW.rv (RV.move rfl) rfl ?_
      refine OW.rv (RV.add rfl rfl (by omega)) rfl ?_
      refine OW.rv (RV.assign rfl) rfl ?_
      refine OW.nil ?_
      (repeat (first | refine CW.seq ?_ | refine QW.then_n ?_ | refine CW.block ?_ | refine CW.ret ?_ | refine CW.skip ?_ | refine CW.exit ?_ | refine QW.then_x ?_ | refine QW.then_r ?_ | refine QW.block_n ?_ | refine QW.block_xe ?_ | refine QW.block_xn rfl ?_ | refine QW.block_r ?_))
      refine QW.again (t + 1) (by omega) (by omega) ⟨rfl, rfl, rfl, rfl, rfl, rfl, trivial⟩ (fun _ m => ?_)
      rw [hstep]
      exact m.rot1.tail
    · have ht2 : t = 64 := by omega
      subst ht2
      generalize runTo K W (St.of s) 64 = S at hW ⊢
      have hv : S.toL.length = 8 := rfl
      rw [hW]
      generalize S.toL = V at hv ⊢
      (repeat (first | refine CW.seq ?_ | refine QW.then_n ?_ | refine CW.block ?_ | refine CW.ret ?_ | refine CW.skip ?_ | refine CW.exit ?_ | refine QW.then_x ?_ | refine QW.then_r ?_ | refine QW.block_n ?_ | refine QW.block_xe ?_ | refine QW.block_xn rfl ?_ | refine QW.block_r ?_))
      refine CW.region ?_
      refine OW.rv (RV.assign rfl) rfl ?_
      refine OW.nil ?_
      (repeat (first | refine CW.seq ?_ | refine QW.then_n ?_ | refine CW.block ?_ | refine CW.ret ?_ | refine CW.skip ?_ | refine CW.exit ?_ | refine QW.then_x ?_ | refine QW.then_r ?_ | refine QW.block_n ?_ | refine QW.block_xe ?_ | refine QW.block_xn rfl ?_ | refine QW.block_r ?_))
      refine CW.loop (σ := Nat) (fun i => i ≤ 8) (fun i => [(3, ptr (some b3) 0), (6, ptr (some b6) 0), (8, ptr (some b8) 0), (18, .int .i64 (i : Int))])
        (fun i => (some b8, blk (u32s (addTo V s i)) 23) :: (some b6, blk (u32s z8) 23) :: (some b3, blk (u32s s) 23) :: M) (fun i => 8 - i) 0 (by omega) ⟨rfl, rfl, rfl, rfl, trivial⟩ (fun _ m => by rw [addTo_zero]; exact m.sublist (List.Sublist.cons_cons _ (List.Sublist.cons _ (List.Sublist.refl _)))) ?_
      intro i hi
      have hal := addTo_length hv hs i
      (repeat (first | refine CW.seq ?_ | refine QW.then_n ?_ | refine CW.block ?_ | refine CW.ret ?_ | refine CW.skip ?_ | refine CW.exit ?_ | refine QW.then_x ?_ | refine QW.then_r ?_ | refine QW.block_n ?_ | refine QW.block_xe ?_ | refine QW.block_xn rfl ?_ | refine QW.block_r ?_))
      refine CW.region ?_
      refine OW.rv (RV.move rfl) rfl ?_
      refine OW.rv (RV.lss rfl rfl) rfl ?_
      refine OW.nil ?_
      (repeat (first | refine CW.seq ?_ | refine QW.then_n ?_ | refine CW.block ?_ | refine CW.ret ?_ | refine CW.skip ?_ | refine CW.exit ?_ | refine QW.then_x ?_ | refine QW.then_r ?_ | refine QW.block_n ?_ | refine QW.block_xe ?_ | refine QW.block_xn rfl ?_ | refine QW.block_r ?_))
      (first | refine CW.cond_t rfl ?_ | refine CW.cond_f rfl ?_ | refine CW.cond_p rfl (fun hilt => ?_) (fun hilt => ?_) | refine CW.cond_np rfl (fun hilt => ?_) (fun hilt => ?_) | refine CW.cond rfl (fun hilt => ?_) (fun hilt => ?_))
      · have hi2 : i < 8 := by omega
        have gv : (u32s s)[0 + i]? = some (U32 (s.getD i 0#32)) := by rw [Nat.zero_add]; exact u32s_get (by omega)
        have ga : (u32s (addTo V s i))[0 + i]? = some (U32 (V.getD i 0#32)) := by rw [Nat.zero_add, u32s_get (by omega), addTo_get hv hs hi2]
        have hl2 : 0 + i < (u32s (addTo V s i)).length := by rw [u32s_length]; omega
        (repeat (first | refine CW.seq ?_ | refine QW.then_n ?_ | refine CW.block ?_ | refine CW.ret ?_ | refine CW.skip ?_ | refine CW.exit ?_ | refine QW.then_x ?_ | refine QW.then_r ?_ | refine QW.block_n ?_ | refine QW.block_xe ?_ | refine QW.block_xn rfl ?_ | refine QW.block_r ?_))
        refine CW.drawsT 9 mixed (by kernel_rfl) ?_
        refine TW.rv (RV.move rfl) rfl ?_
        refine TW.rv (RV.move rfl) rfl ?_
        (first | refine TW.rv (RV.idx_a _ rfl rfl rfl rfl rfl (by omega)) rfl ?_ | refine TW.rv (RV.idx_az rfl rfl (by omega) rfl rfl (by omega)) rfl ?_)
        (first | refine TW.rv (RV.load rfl (by (repeat (first | exact List.Mem.head _ | assumption | refine List.Mem.tail _ ?_)); done) (by first | rfl | assumption) rfl rfl (by first | rfl | assumption)) rfl ?_ | refine TW.rv (RV.load_at rfl rfl rfl (by (repeat (first | assumption | refine Mem.Says.cons ?_)); done)) rfl ?_)
        refine TW.rv (RV.move rfl) rfl ?_
        (first | refine TW.rv (RV.idx_a _ rfl rfl rfl rfl rfl (by omega)) rfl ?_ | refine TW.rv (RV.idx_az rfl rfl (by omega) rfl rfl (by omega)) rfl ?_)
        (first | refine TW.rv (RV.load rfl (by (repeat (first | exact List.Mem.head _ | assumption | refine List.Mem.tail _ ?_)); done) (by first | rfl | assumption) rfl rfl (by first | rfl | assumption)) rfl ?_ | refine TW.rv (RV.load_at rfl rfl rfl (by (repeat (first | assumption | refine Mem.Says.cons ?_)); done)) rfl ?_)
        refine TW.rv (RV.add32 rfl (by first | rfl | exact lit32 _ rfl) rfl (by first | rfl | exact lit32 _ rfl)) rfl ?_
        (first | refine TW.rv (RV.idx_a _ rfl rfl rfl rfl rfl (by omega)) rfl ?_ | refine TW.rv (RV.idx_az rfl rfl (by omega) rfl rfl (by omega)) rfl ?_)
        refine TW.nil ?_
        (first | refine OW.sv (SV.store rfl (by first | rfl | assumption) rfl rfl rfl (by first | assumption | (simp; done) | (simp; omega) | omega)) ?_ | (refine OW.rot1 ?_; refine OW.sv (SV.store rfl (by first | rfl | assumption) rfl rfl rfl (by first | assumption | (simp; done) | (simp; omega) | omega)) ?_) | (refine OW.rot2 ?_; refine OW.sv (SV.store rfl (by first | rfl | assumption) rfl rfl rfl (by first | assumption | (simp; done) | (simp; omega) | omega)) ?_) | (refine OW.rot3 ?_; refine OW.sv (SV.store rfl (by first | rfl | assumption) rfl rfl rfl (by first | assumption | (simp; done) | (simp; omega) | omega)) ?_) | (refine OW.rot4 ?_; refine OW.sv (SV.store rfl (by first | rfl | assumption) rfl rfl rfl (by first | assumption | (simp; done) | (simp; omega) | omega)) ?_))
        refine OW.nil ?_
        (repeat (first | refine CW.seq ?_ | refine QW.then_n ?_ | refine CW.block ?_ | refine CW.ret ?_ | refine CW.skip ?_ | refine CW.exit ?_ | refine QW.then_x ?_ | refine QW.then_r ?_ | refine QW.block_n ?_ | refine QW.block_xe ?_ | refine QW.block_xn rfl ?_ | refine QW.block_r ?_))
        (repeat (first | refine CW.seq ?_ | refine QW.then_n ?_ | refine CW.block ?_ | refine CW.ret ?_ | refine CW.skip ?_ | refine CW.exit ?_ | refine QW.then_x ?_ | refine QW.then_r ?_ | refine QW.block_n ?_ | refine QW.block_xe ?_ | refine QW.block_xn rfl ?_ | refine QW.block_r ?_))
        refine CW.region ?_
        refine OW.rv (RV.move rfl) rfl ?_
        refine OW.rv (RV.add rfl rfl (by omega)) rfl ?_
        refine OW.rv (RV.assign rfl) rfl ?_
        refine OW.nil ?_
        (repeat (first | refine CW.seq ?_ | refine QW.then_n ?_ | refine CW.block ?_ | refine CW.ret ?_ | refine CW.skip ?_ | refine CW.exit ?_ | refine QW.then_x ?_ | refine QW.then_r ?_ | refine QW.block_n ?_ | refine QW.block_xe ?_ | refine QW.block_xn rfl ?_ | refine QW.block_r ?_))
        refine QW.again (i + 1) (by omega) (by omega) ⟨rfl, rfl, rfl, rfl, trivial⟩ (fun _ m => ?_)
        rw [Nat.zero_add, u32s_set', addTo_set hv hs hi2] at m
        exact m
      · have hi2 : i = 8 := by omega
        subst hi2
        rw [addTo_all hv hs] at hal ⊢
        rw [addL_comm s V]
        (repeat (first | refine CW.seq ?_ | refine QW.then_n ?_ | refine CW.block ?_ | refine CW.ret ?_ | refine CW.skip ?_ | refine CW.exit ?_ | refine QW.then_x ?_ | refine QW.then_r ?_ | refine QW.block_n ?_ | refine QW.block_xe ?_ | refine QW.block_xn rfl ?_ | refine QW.block_r ?_))
        refine CW.region ?_
        (first | refine OW.rv (RV.loadW rfl (by (repeat (first | exact List.Mem.head _ | assumption | refine List.Mem.tail _ ?_)); done) (by first | rfl | assumption) rfl rfl rfl (by first | assumption | exact (u32s_length _).trans (List.length_replicate ..) | exact (u32s_length _).trans (by assumption) | rfl | (simp; done) | (simp [*]; done) | (simp [*]; rfl))) rfl ?_ | refine OW.rv (RV.loadAo rfl (by (repeat (first | exact List.Mem.head _ | assumption | refine List.Mem.tail _ ?_)); done) (by first | rfl | assumption) rfl rfl rfl (by assumption) (by first | assumption | exact (u32s_length _).trans (List.length_replicate ..) | exact (u32s_length _).trans (by assumption) | rfl | (simp; done) | (simp [*]; done) | (simp [*]; rfl))) rfl ?_ | refine OW.rv (RV.loadAs rfl rfl rfl rfl (by (repeat (first | assumption | refine Mem.Says.cons ?_)); done) (by first | assumption | exact (u32s_length _).trans (List.length_replicate ..) | exact (u32s_length _).trans (by assumption) | rfl | (simp; done) | (simp [*]; done) | (simp [*]; rfl))) rfl ?_)
        (first | (first | refine OW.sv (SV.storeW rfl (by first | rfl | assumption) rfl (by first | exact u32s_one _ | assumption) rfl (by first | assumption | exact (u32s_length _).trans (List.length_replicate ..) | exact (u32s_length _).trans (by assumption) | rfl | (simp; done) | (simp [*]; done) | (simp [*]; rfl)) (by first | assumption | exact (u32s_length _).trans (List.length_replicate ..) | exact (u32s_length _).trans (by assumption) | rfl | (simp; done) | (simp [*]; done) | (simp [*]; rfl))) ?_ | refine OW.sv (SV.storeAs rfl (by first | rfl | assumption) rfl (by first | exact u32s_one _ | assumption) rfl (by first | assumption | exact (u32s_length _).trans (List.length_replicate ..) | exact (u32s_length _).trans (by assumption) | rfl | (simp; done) | (simp [*]; done) | (simp [*]; rfl)) (by first | assumption | (simp; done) | (simp; omega) | omega)) ?_) | (refine OW.rot1 ?_; (first | refine OW.sv (SV.storeW rfl (by first | rfl | assumption) rfl (by first | exact u32s_one _ | assumption) rfl (by first | assumption | exact (u32s_length _).trans (List.length_replicate ..) | exact (u32s_length _).trans (by assumption) | rfl | (simp; done) | (simp [*]; done) | (simp [*]; rfl)) (by first | assumption | exact (u32s_length _).trans (List.length_replicate ..) | exact (u32s_length _).trans (by assumption) | rfl | (simp; done) | (simp [*]; done) | (simp [*]; rfl))) ?_ | refine OW.sv (SV.storeAs rfl (by first | rfl | assumption) rfl (by first | exact u32s_one _ | assumption) rfl (by first | assumption | exact (u32s_length _).trans (List.length_replicate ..) | exact (u32s_length _).trans (by assumption) | rfl | (simp; done) | (simp [*]; done) | (simp [*]; rfl)) (by first | assumption | (simp; done) | (simp; omega) | omega)) ?_)) | (refine OW.rot2 ?_; (first | refine OW.sv (SV.storeW rfl (by first | rfl | assumption) rfl (by first | exact u32s_one _ | assumption) rfl (by first | assumption | exact (u32s_length _).trans (List.length_replicate ..) | exact (u32s_length _).trans (by assumption) | rfl | (simp; done) | (simp [*]; done) | (simp [*]; rfl)) (by first | assumption | exact (u32s_length _).trans (List.length_replicate ..) | exact (u32s_length _).trans (by assumption) | rfl | (simp; done) | (simp [*]; done) | (simp [*]; rfl))) ?_ | refine OW.sv (SV.storeAs rfl (by first | rfl | assumption) rfl (by first | exact u32s_one _ | assumption) rfl (by first | assumption | exact (u32s_length _).trans (List.length_replicate ..) | exact (u32s_length _).trans (by assumption) | rfl | (simp; done) | (simp [*]; done) | (simp [*]; rfl)) (by first | assumption | (simp; done) | (simp; omega) | omega)) ?_)) | (refine OW.rot3 ?_; (first | refine OW.sv (SV.storeW rfl (by first | rfl | assumption) rfl (by first | exact u32s_one _ | assumption) rfl (by first | assumption | exact (u32s_length _).trans (List.length_replicate ..) | exact (u32s_length _).trans (by assumption) | rfl | (simp; done) | (simp [*]; done) | (simp [*]; rfl)) (by first | assumption | exact (u32s_length _).trans (List.length_replicate ..) | exact (u32s_length _).trans (by assumption) | rfl | (simp; done) | (simp [*]; done) | (simp [*]; rfl))) ?_ | refine OW.sv (SV.storeAs rfl (by first | rfl | assumption) rfl (by first | exact u32s_one _ | assumption) rfl (by first | assumption | exact (u32s_length _).trans (List.length_replicate ..) | exact (u32s_length _).trans (by assumption) | rfl | (simp; done) | (simp [*]; done) | (simp [*]; rfl)) (by first | assumption | (simp; done) | (simp; omega) | omega)) ?_)) | (refine OW.rot4 ?_; (first | refine OW.sv (SV.storeW rfl (by first | rfl | assumption) rfl (by first | exact u32s_one _ | assumption) rfl (by first | assumption | exact (u32s_length _).trans (List.length_replicate ..) | exact (u32s_length _).trans (by assumption) | rfl | (simp; done) | (simp [*]; done) | (simp [*]; rfl)) (by first | assumption | exact (u32s_length _).trans (List.length_replicate ..) | exact (u32s_length _).trans (by assumption) | rfl | (simp; done) | (simp [*]; done) | (simp [*]; rfl))) ?_ | refine OW.sv (SV.storeAs rfl (by first | rfl | assumption) rfl (by first | exact u32s_one _ | assumption) rfl (by first | assumption | exact (u32s_length _).trans (List.length_replicate ..) | exact (u32s_length _).trans (by assumption) | rfl | (simp; done) | (simp [*]; done) | (simp [*]; rfl)) (by first | assumption | (simp; done) | (simp; omega) | omega)) ?_)) | (refine OW.rot5 ?_; (first | refine OW.sv (SV.storeW rfl (by first | rfl | assumption) rfl (by first | exact u32s_one _ | assumption) rfl (by first | assumption | exact (u32s_length _).trans (List.length_replicate ..) | exact (u32s_length _).trans (by assumption) | rfl | (simp; done) | (simp [*]; done) | (simp [*]; rfl)) (by first | assumption | exact (u32s_length _).trans (List.length_replicate ..) | exact (u32s_length _).trans (by assumption) | rfl | (simp; done) | (simp [*]; done) | (simp [*]; rfl))) ?_ | refine OW.sv (SV.storeAs rfl (by first | rfl | assumption) rfl (by first | exact u32s_one _ | assumption) rfl (by first | assumption | exact (u32s_length _).trans (List.length_replicate ..) | exact (u32s_length _).trans (by assumption) | rfl | (simp; done) | (simp [*]; done) | (simp [*]; rfl)) (by first | assumption | (simp; done) | (simp; omega) | omega)) ?_)) | (refine OW.rot6 ?_; (first | refine OW.sv (SV.storeW rfl (by first | rfl | assumption) rfl (by first | exact u32s_one _ | assumption) rfl (by first | assumption | exact (u32s_length _).trans (List.length_replicate ..) | exact (u32s_length _).trans (by assumption) | rfl | (simp; done) | (simp [*]; done) | (simp [*]; rfl)) (by first | assumption | exact (u32s_length _).trans (List.length_replicate ..) | exact (u32s_length _).trans (by assumption) | rfl | (simp; done) | (simp [*]; done) | (simp [*]; rfl))) ?_ | refine OW.sv (SV.storeAs rfl (by first | rfl | assumption) rfl (by first | exact u32s_one _ | assumption) rfl (by first | assumption | exact (u32s_length _).trans (List.length_replicate ..) | exact (u32s_length _).trans (by assumption) | rfl | (simp; done) | (simp [*]; done) | (simp [*]; rfl)) (by first | assumption | (simp; done) | (simp; omega) | omega)) ?_)))
        refine OW.nil ?_
        (repeat (first | refine CW.seq ?_ | refine QW.then_n ?_ | refine CW.block ?_ | refine CW.ret ?_ | refine CW.skip ?_ | refine CW.exit ?_ | refine QW.then_x ?_ | refine QW.then_r ?_ | refine QW.block_n ?_ | refine QW.block_xe ?_ | refine QW.block_xn rfl ?_ | refine QW.block_r ?_))
        exact QW.retC1 rfl () trivial rfl (List.Mem.head _) rfl rfl rfl rfl ((u32s_length _).trans hal) rfl (fun _ m => m.tail.tail.tail)
end Go.Fw.Tryd
