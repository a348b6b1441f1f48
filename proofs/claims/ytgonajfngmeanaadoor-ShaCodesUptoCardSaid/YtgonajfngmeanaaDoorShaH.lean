/- Part of a proof: rules that its law uses. -/
import Derived.Test.YtgonajfngmeanaaDoorShaG
namespace Go.Fw.Tryd
open Go Go.Proofs
set_option maxRecDepth 100000
set_option linter.unusedVariables false
attribute [local irreducible] wTo
theorem copied_does (w0 : World) (M : List Ent) (A : Option Addr) (ca : Nat) (xs : List (BitVec 8)) (hA : Mem.Says w0 M (fun w => Rd w A (u8s xs))) {la : Nat} (hla : xs.length = la) (hx : la ≤ 140737488351232) :
    Does Tryd.prog 23 [.slice A la ca] w0 M (τ := Option Nat × List Value × Nat) (fun q => (u8s xs ++ q.2.1).length = q.2.2 ∧ (q.1 = none → q.2.2 = 0)) (fun q => sl q.1 0 la q.2.2) (fun q => (q.1, blk (u8s xs ++ q.2.1) 5) :: M) := by
  subst hla
  refine Does.of_mem fun w1 m1 => ?_
  have sA : ∀ i, i < xs.length → A.isSome = true := fun i hi => Rd.someOf (f := U8) (hA w1 m1) hi
  refine Does.enter Tryd.func23 rfl Tryd.ntmps23 rfl ?_
  (repeat (first | refine CW.seq ?_ | refine QW.then_n ?_ | refine CW.block ?_ | refine CW.ret ?_ | refine CW.skip ?_ | refine CW.exit ?_ | refine QW.then_x ?_ | refine QW.then_r ?_ | refine QW.block_n ?_ | refine QW.block_xe ?_ | refine QW.block_xn rfl ?_ | refine QW.block_r ?_))
  refine CW.region ?_
  refine OW.rv (RV.assign rfl) rfl ?_
  refine OW.nil ?_
  (repeat (first | refine CW.seq ?_ | refine QW.then_n ?_ | refine CW.block ?_ | refine CW.ret ?_ | refine CW.skip ?_ | refine CW.exit ?_ | refine QW.then_x ?_ | refine QW.then_r ?_ | refine QW.block_n ?_ | refine QW.block_xe ?_ | refine QW.block_xn rfl ?_ | refine QW.block_r ?_))
  (repeat (first | refine CW.seq ?_ | refine QW.then_n ?_ | refine CW.block ?_ | refine CW.ret ?_ | refine CW.skip ?_ | refine CW.exit ?_ | refine QW.then_x ?_ | refine QW.then_r ?_ | refine QW.block_n ?_ | refine QW.block_xe ?_ | refine QW.block_xn rfl ?_ | refine QW.block_r ?_))
  refine CW.region ?_
  refine OW.rv (RV.assign rfl) rfl ?_
  refine OW.nil ?_
  (repeat (first | refine CW.seq ?_ | refine QW.then_n ?_ | refine CW.block ?_ | refine CW.ret ?_ | refine CW.skip ?_ | refine CW.exit ?_ | refine QW.then_x ?_ | refine QW.then_r ?_ | refine QW.block_n ?_ | refine QW.block_xe ?_ | refine QW.block_xn rfl ?_ | refine QW.block_r ?_))
  (repeat (first | refine CW.seq ?_ | refine QW.then_n ?_ | refine CW.block ?_ | refine CW.ret ?_ | refine CW.skip ?_ | refine CW.exit ?_ | refine QW.then_x ?_ | refine QW.then_r ?_ | refine QW.block_n ?_ | refine QW.block_xe ?_ | refine QW.block_xn rfl ?_ | refine QW.block_r ?_))
  refine CW.region ?_
  refine OW.rv (RV.assign rfl) rfl ?_
  refine OW.nil ?_
  (repeat (first | refine CW.seq ?_ | refine QW.then_n ?_ | refine CW.block ?_ | refine CW.ret ?_ | refine CW.skip ?_ | refine CW.exit ?_ | refine QW.then_x ?_ | refine QW.then_r ?_ | refine QW.block_n ?_ | refine QW.block_xe ?_ | refine QW.block_xn rfl ?_ | refine QW.block_r ?_))
  refine CW.loop (σ := Nat × Option Nat × List Value × Nat) (fun s => s.1 ≤ xs.length ∧ (u8s (xs.take s.1) ++ s.2.2.1).length = s.2.2.2 ∧ (s.2.1 = none → s.2.2.2 = 0)) (fun s => [(0, .slice A xs.length ca), (3, sl s.2.1 0 s.1 s.2.2.2), (4, .int .i64 (s.1 : Int))])
    (fun s => (s.2.1, blk (u8s (xs.take s.1) ++ s.2.2.1) 5) :: M) (fun s => xs.length - s.1) (0, none, [], 0) ⟨by simp, rfl, fun _ => rfl⟩ ⟨rfl, rfl, rfl, trivial⟩ (fun _ m => m.nil_ent _) ?_
  rintro ⟨i, ob, r, cap⟩ ⟨hi, h3, h4⟩
  dsimp only at hi h3 h4 ⊢
  have h5 : (u8s (xs.take i)).length = i := by rw [u8s_length, List.length_take]; omega
  (repeat (first | refine CW.seq ?_ | refine QW.then_n ?_ | refine CW.block ?_ | refine CW.ret ?_ | refine CW.skip ?_ | refine CW.exit ?_ | refine QW.then_x ?_ | refine QW.then_r ?_ | refine QW.block_n ?_ | refine QW.block_xe ?_ | refine QW.block_xn rfl ?_ | refine QW.block_r ?_))
  refine CW.region ?_
  refine OW.rv (RV.move rfl) rfl ?_
  refine OW.rv (RV.move rfl) rfl ?_
  refine OW.rv (RV.len rfl rfl) rfl ?_
  refine OW.rv (RV.lss rfl rfl) rfl ?_
  refine OW.nil ?_
  (repeat (first | refine CW.seq ?_ | refine QW.then_n ?_ | refine CW.block ?_ | refine CW.ret ?_ | refine CW.skip ?_ | refine CW.exit ?_ | refine QW.then_x ?_ | refine QW.then_r ?_ | refine QW.block_n ?_ | refine QW.block_xe ?_ | refine QW.block_xn rfl ?_ | refine QW.block_r ?_))
  (first | refine CW.cond_t rfl ?_ | refine CW.cond_f rfl ?_ | refine CW.cond_p rfl (fun hlt => ?_) (fun hlt => ?_) | refine CW.cond_np rfl (fun hlt => ?_) (fun hlt => ?_) | refine CW.cond rfl (fun hlt => ?_) (fun hlt => ?_))
  · have hi2 : i < xs.length := by omega
    have s1 := sA i hi2
    have l1 : Mem.Says w0 M (fun w => w.cell? ((A.getD default).add i) = some (U8 (xs.getD i 0#8))) := fun w m => (hA w m).cell (u8s_get hi2)
    (repeat (first | refine CW.seq ?_ | refine QW.then_n ?_ | refine CW.block ?_ | refine CW.ret ?_ | refine CW.skip ?_ | refine CW.exit ?_ | refine QW.then_x ?_ | refine QW.then_r ?_ | refine QW.block_n ?_ | refine QW.block_xe ?_ | refine QW.block_xn rfl ?_ | refine QW.block_r ?_))
    refine CW.region ?_
    refine OW.rv (RV.move rfl) rfl ?_
    refine OW.rv (RV.move rfl) rfl ?_
    refine OW.rv (RV.move rfl) rfl ?_
    (first | refine OW.rv (RV.idx_o _ rfl rfl rfl rfl rfl (by first | rfl | assumption) (by omega)) rfl ?_ | refine OW.rv (RV.idx_r _ rfl rfl rfl rfl rfl (by first | rfl | assumption) (by omega)) rfl ?_ | refine OW.rv (RV.idx_oz rfl rfl (by omega) rfl rfl (by first | rfl | assumption) (by omega)) rfl ?_ | refine OW.rv (RV.idx_rz rfl rfl (by omega) rfl rfl (by first | rfl | assumption) (by omega)) rfl ?_)
    (first | refine OW.rv (RV.load rfl (by (repeat (first | exact List.Mem.head _ | assumption | refine List.Mem.tail _ ?_)); done) (by first | rfl | assumption) rfl rfl (by first | rfl | assumption)) rfl ?_ | refine OW.rv (RV.load_at rfl rfl rfl (by (repeat (first | assumption | refine Mem.Says.cons ?_)); done)) rfl ?_)
    (first | refine OW.push rfl rfl rfl rfl rfl rfl rfl rfl (by first | assumption | rfl | simp | omega) (by first | assumption | rfl | (simp; done)) (by first | assumption | exact (fun _ => rfl) | exact (fun h => nomatch h)) (by omega) (by simp only [i5]; omega) rfl rfl (fun b17 ob17 r17 cap17 hr17 hn17 => ?_) | (refine OW.rot1 ?_; refine OW.push rfl rfl rfl rfl rfl rfl rfl rfl (by first | assumption | rfl | simp | omega) (by first | assumption | rfl | (simp; done)) (by first | assumption | exact (fun _ => rfl) | exact (fun h => nomatch h)) (by omega) (by simp only [i5]; omega) rfl rfl (fun b17 ob17 r17 cap17 hr17 hn17 => ?_)) | (refine OW.rot2 ?_; refine OW.push rfl rfl rfl rfl rfl rfl rfl rfl (by first | assumption | rfl | simp | omega) (by first | assumption | rfl | (simp; done)) (by first | assumption | exact (fun _ => rfl) | exact (fun h => nomatch h)) (by omega) (by simp only [i5]; omega) rfl rfl (fun b17 ob17 r17 cap17 hr17 hn17 => ?_)) | (refine OW.rot3 ?_; refine OW.push rfl rfl rfl rfl rfl rfl rfl rfl (by first | assumption | rfl | simp | omega) (by first | assumption | rfl | (simp; done)) (by first | assumption | exact (fun _ => rfl) | exact (fun h => nomatch h)) (by omega) (by simp only [i5]; omega) rfl rfl (fun b17 ob17 r17 cap17 hr17 hn17 => ?_)))
    refine OW.rv (RV.assign rfl) rfl ?_
    refine OW.nil ?_
    (repeat (first | refine CW.seq ?_ | refine QW.then_n ?_ | refine CW.block ?_ | refine CW.ret ?_ | refine CW.skip ?_ | refine CW.exit ?_ | refine QW.then_x ?_ | refine QW.then_r ?_ | refine QW.block_n ?_ | refine QW.block_xe ?_ | refine QW.block_xn rfl ?_ | refine QW.block_r ?_))
    (repeat (first | refine CW.seq ?_ | refine QW.then_n ?_ | refine CW.block ?_ | refine CW.ret ?_ | refine CW.skip ?_ | refine CW.exit ?_ | refine QW.then_x ?_ | refine QW.then_r ?_ | refine QW.block_n ?_ | refine QW.block_xe ?_ | refine QW.block_xn rfl ?_ | refine QW.block_r ?_))
    refine CW.region ?_
    refine OW.rv (RV.move rfl) rfl ?_
    refine OW.rv (RV.add rfl rfl (by omega)) rfl ?_
    refine OW.rv (RV.assign rfl) rfl ?_
    refine OW.nil ?_
    (repeat (first | refine CW.seq ?_ | refine QW.then_n ?_ | refine CW.block ?_ | refine CW.ret ?_ | refine CW.skip ?_ | refine CW.exit ?_ | refine QW.then_x ?_ | refine QW.then_r ?_ | refine QW.block_n ?_ | refine QW.block_xe ?_ | refine QW.block_xn rfl ?_ | refine QW.block_r ?_))
    have e2 : u8s (xs.take (i + 1)) = u8s (xs.take i) ++ [U8 (xs.getD i 0#8)] := by
      have e1 : xs.take (i + 1) = xs.take i ++ [xs.getD i 0#8] := by rw [List.take_add_one, List.getElem?_eq_getElem hi2]; simp [List.getD, List.getElem?_eq_getElem hi2]
      rw [e1]; simp only [u8s, List.map_append]; rfl
    refine QW.again (i + 1, ob17, r17, cap17) ⟨by show i + 1 ≤ _; omega, by rw [e2]; exact hr17, hn17⟩ (by show _ - (i + 1) < _ - i; omega) ⟨rfl, rfl, rfl, trivial⟩ (fun _ m => by rw [e2]; exact m)
  · have hi2 : i = xs.length := by omega
    subst hi2
    rw [List.take_length] at h3 ⊢
    (repeat (first | refine CW.seq ?_ | refine QW.then_n ?_ | refine CW.block ?_ | refine CW.ret ?_ | refine CW.skip ?_ | refine CW.exit ?_ | refine QW.then_x ?_ | refine QW.then_r ?_ | refine QW.block_n ?_ | refine QW.block_xe ?_ | refine QW.block_xn rfl ?_ | refine QW.block_r ?_))
    refine CW.region ?_
    refine OW.rv (RV.move rfl) rfl ?_
    refine OW.rv (RV.assign rfl) rfl ?_
    refine OW.nil ?_
    (repeat (first | refine CW.seq ?_ | refine QW.then_n ?_ | refine CW.block ?_ | refine CW.ret ?_ | refine CW.skip ?_ | refine CW.exit ?_ | refine QW.then_x ?_ | refine QW.then_r ?_ | refine QW.block_n ?_ | refine QW.block_xe ?_ | refine QW.block_xn rfl ?_ | refine QW.block_r ?_))
    exact QW.ret1 rfl (ob, r, cap) ⟨h3, h4⟩ rfl (fun _ m => m)
def marks (n : Nat) : List (BitVec 8) := List.replicate n 165#8
theorem marks_succ (n : Nat) : marks (n + 1) = marks n ++ [165#8] := List.replicate_succ' ..
@[simp] theorem marks_length (n : Nat) : (marks n).length = n := List.length_replicate ..
theorem lent_does (w0 : World) (M : List Ent) (A : Option Addr) (ca : Nat) (xs : List (BitVec 8)) (hA : Mem.Says w0 M (fun w => Rd w A (u8s xs))) {la : Nat} (hla : xs.length = la) (hx : la ≤ 140737488351232) :
    Does Tryd.prog 10 [.slice A la ca] w0 M (τ := Nat × List Value × Nat) (fun q => (u8s (xs ++ marks 70) ++ q.2.1).length = q.2.2) (fun q => sl (some q.1) 0 la q.2.2) (fun q => (some q.1, blk (u8s (xs ++ marks 70) ++ q.2.1) 5) :: M) := by
  refine Does.enter Tryd.func10 rfl Tryd.ntmps10 rfl ?_
  (repeat (first | refine CW.seq ?_ | refine QW.then_n ?_ | refine CW.block ?_ | refine CW.ret ?_ | refine CW.skip ?_ | refine CW.exit ?_ | refine QW.then_x ?_ | refine QW.then_r ?_ | refine QW.block_n ?_ | refine QW.block_xe ?_ | refine QW.block_xn rfl ?_ | refine QW.block_r ?_))
  refine CW.region ?_
  refine OW.rv (RV.assign rfl) rfl ?_
  refine OW.nil ?_
  (repeat (first | refine CW.seq ?_ | refine QW.then_n ?_ | refine CW.block ?_ | refine CW.ret ?_ | refine CW.skip ?_ | refine CW.exit ?_ | refine QW.then_x ?_ | refine QW.then_r ?_ | refine QW.block_n ?_ | refine QW.block_xe ?_ | refine QW.block_xn rfl ?_ | refine QW.block_r ?_))
  (repeat (first | refine CW.seq ?_ | refine QW.then_n ?_ | refine CW.block ?_ | refine CW.ret ?_ | refine CW.skip ?_ | refine CW.exit ?_ | refine QW.then_x ?_ | refine QW.then_r ?_ | refine QW.block_n ?_ | refine QW.block_xe ?_ | refine QW.block_xn rfl ?_ | refine QW.block_r ?_))
  refine CW.region ?_
  refine OW.rv (RV.move rfl) rfl ?_
  refine OW.call Tryd.call23 rfl (copied_does w0 _ A ca xs hA hla hx) rfl (fun q hq => ?_)
  refine OW.rv (RV.assign rfl) rfl ?_
  refine OW.nil ?_
  (repeat (first | refine CW.seq ?_ | refine QW.then_n ?_ | refine CW.block ?_ | refine CW.ret ?_ | refine CW.skip ?_ | refine CW.exit ?_ | refine QW.then_x ?_ | refine QW.then_r ?_ | refine QW.block_n ?_ | refine QW.block_xe ?_ | refine QW.block_xn rfl ?_ | refine QW.block_r ?_))
  obtain ⟨ob0, r0, cap0⟩ := q
  (repeat (first | refine CW.seq ?_ | refine QW.then_n ?_ | refine CW.block ?_ | refine CW.ret ?_ | refine CW.skip ?_ | refine CW.exit ?_ | refine QW.then_x ?_ | refine QW.then_r ?_ | refine QW.block_n ?_ | refine QW.block_xe ?_ | refine QW.block_xn rfl ?_ | refine QW.block_r ?_))
  refine CW.region ?_
  refine OW.rv (RV.assign rfl) rfl ?_
  refine OW.nil ?_
  (repeat (first | refine CW.seq ?_ | refine QW.then_n ?_ | refine CW.block ?_ | refine CW.ret ?_ | refine CW.skip ?_ | refine CW.exit ?_ | refine QW.then_x ?_ | refine QW.then_r ?_ | refine QW.block_n ?_ | refine QW.block_xe ?_ | refine QW.block_xn rfl ?_ | refine QW.block_r ?_))
  refine CW.loop (σ := Nat × Option Nat × List Value × Nat) (fun s => s.1 ≤ 70 ∧ (u8s (xs ++ marks s.1) ++ s.2.2.1).length = s.2.2.2 ∧ (s.2.1 = none → s.2.2.2 = 0)) (fun s => [(0, .slice A la ca), (3, sl s.2.1 0 (la + s.1) s.2.2.2), (4, .int .i64 (s.1 : Int))])
    (fun s => (s.2.1, blk (u8s (xs ++ marks s.1) ++ s.2.2.1) 5) :: M) (fun s => 70 - s.1) (0, ob0, r0, cap0) ⟨by simp, by simpa [marks] using hq.1, hq.2⟩ ⟨rfl, rfl, rfl, trivial⟩ (fun _ m => by simpa [marks] using m) ?_
  clear hq ob0 r0 cap0
  rintro ⟨i, ob, r, cap⟩ ⟨hi, h3, h4⟩
  dsimp only at hi h3 h4 ⊢
  have h5 : (u8s (xs ++ marks i)).length = la + i := by rw [u8s_length, List.length_append, marks_length, hla]
  (repeat (first | refine CW.seq ?_ | refine QW.then_n ?_ | refine CW.block ?_ | refine CW.ret ?_ | refine CW.skip ?_ | refine CW.exit ?_ | refine QW.then_x ?_ | refine QW.then_r ?_ | refine QW.block_n ?_ | refine QW.block_xe ?_ | refine QW.block_xn rfl ?_ | refine QW.block_r ?_))
  refine CW.region ?_
  refine OW.rv (RV.move rfl) rfl ?_
  refine OW.rv (RV.lss rfl rfl) rfl ?_
  refine OW.nil ?_
  (repeat (first | refine CW.seq ?_ | refine QW.then_n ?_ | refine CW.block ?_ | refine CW.ret ?_ | refine CW.skip ?_ | refine CW.exit ?_ | refine QW.then_x ?_ | refine QW.then_r ?_ | refine QW.block_n ?_ | refine QW.block_xe ?_ | refine QW.block_xn rfl ?_ | refine QW.block_r ?_))
  (first | refine CW.cond_t rfl ?_ | refine CW.cond_f rfl ?_ | refine CW.cond_p rfl (fun hlt => ?_) (fun hlt => ?_) | refine CW.cond_np rfl (fun hlt => ?_) (fun hlt => ?_) | refine CW.cond rfl (fun hlt => ?_) (fun hlt => ?_))
  · (repeat (first | refine CW.seq ?_ | refine QW.then_n ?_ | refine CW.block ?_ | refine CW.ret ?_ | refine CW.skip ?_ | refine CW.exit ?_ | refine QW.then_x ?_ | refine QW.then_r ?_ | refine QW.block_n ?_ | refine QW.block_xe ?_ | refine QW.block_xn rfl ?_ | refine QW.block_r ?_))
    refine CW.region ?_
    refine OW.rv (RV.move rfl) rfl ?_
    (first | refine OW.push rfl rfl rfl rfl rfl rfl rfl rfl (by first | assumption | rfl | simp | omega) (by first | assumption | rfl | (simp; done)) (by first | assumption | exact (fun _ => rfl) | exact (fun h => nomatch h)) (by omega) (by simp only [i5]; omega) rfl rfl (fun b13 ob13 r13 cap13 hr13 hn13 => ?_) | (refine OW.rot1 ?_; refine OW.push rfl rfl rfl rfl rfl rfl rfl rfl (by first | assumption | rfl | simp | omega) (by first | assumption | rfl | (simp; done)) (by first | assumption | exact (fun _ => rfl) | exact (fun h => nomatch h)) (by omega) (by simp only [i5]; omega) rfl rfl (fun b13 ob13 r13 cap13 hr13 hn13 => ?_)) | (refine OW.rot2 ?_; refine OW.push rfl rfl rfl rfl rfl rfl rfl rfl (by first | assumption | rfl | simp | omega) (by first | assumption | rfl | (simp; done)) (by first | assumption | exact (fun _ => rfl) | exact (fun h => nomatch h)) (by omega) (by simp only [i5]; omega) rfl rfl (fun b13 ob13 r13 cap13 hr13 hn13 => ?_)) | (refine OW.rot3 ?_; refine OW.push rfl rfl rfl rfl rfl rfl rfl rfl (by first | assumption | rfl | simp | omega) (by first | assumption | rfl | (simp; done)) (by first | assumption | exact (fun _ => rfl) | exact (fun h => nomatch h)) (by omega) (by simp only [i5]; omega) rfl rfl (fun b13 ob13 r13 cap13 hr13 hn13 => ?_)))
    refine OW.rv (RV.assign rfl) rfl ?_
    refine OW.nil ?_
    (repeat (first | refine CW.seq ?_ | refine QW.then_n ?_ | refine CW.block ?_ | refine CW.ret ?_ | refine CW.skip ?_ | refine CW.exit ?_ | refine QW.then_x ?_ | refine QW.then_r ?_ | refine QW.block_n ?_ | refine QW.block_xe ?_ | refine QW.block_xn rfl ?_ | refine QW.block_r ?_))
    (repeat (first | refine CW.seq ?_ | refine QW.then_n ?_ | refine CW.block ?_ | refine CW.ret ?_ | refine CW.skip ?_ | refine CW.exit ?_ | refine QW.then_x ?_ | refine QW.then_r ?_ | refine QW.block_n ?_ | refine QW.block_xe ?_ | refine QW.block_xn rfl ?_ | refine QW.block_r ?_))
    refine CW.region ?_
    refine OW.rv (RV.move rfl) rfl ?_
    refine OW.rv (RV.add rfl rfl (by omega)) rfl ?_
    refine OW.rv (RV.assign rfl) rfl ?_
    refine OW.nil ?_
    (repeat (first | refine CW.seq ?_ | refine QW.then_n ?_ | refine CW.block ?_ | refine CW.ret ?_ | refine CW.skip ?_ | refine CW.exit ?_ | refine QW.then_x ?_ | refine QW.then_r ?_ | refine QW.block_n ?_ | refine QW.block_xe ?_ | refine QW.block_xn rfl ?_ | refine QW.block_r ?_))
    have e2 : u8s (xs ++ marks (i + 1)) = u8s (xs ++ marks i) ++ [Value.int .u8 165] := by rw [marks_succ, ← List.append_assoc]; simp only [u8s, List.map_append]; rfl
    refine QW.again (i + 1, ob13, r13, cap13) ⟨by show i + 1 ≤ 70; omega, by rw [e2]; exact hr13, hn13⟩ (by show 70 - (i + 1) < 70 - i; omega) ⟨rfl, rfl, rfl, trivial⟩ (fun _ m => by rw [e2]; exact m)
  · have hi2 : i = 70 := by omega
    subst hi2
    rw [List.length_append, h5] at h3
    rcases ob with _ | b
    · have := h4 rfl
      omega
    · (repeat (first | refine CW.seq ?_ | refine QW.then_n ?_ | refine CW.block ?_ | refine CW.ret ?_ | refine CW.skip ?_ | refine CW.exit ?_ | refine QW.then_x ?_ | refine QW.then_r ?_ | refine QW.block_n ?_ | refine QW.block_xe ?_ | refine QW.block_xn rfl ?_ | refine QW.block_r ?_))
      refine CW.region ?_
      refine OW.rv (RV.move rfl) rfl ?_
      refine OW.rv (RV.move rfl) rfl ?_
      refine OW.rv (RV.len rfl rfl) rfl ?_
      (first | refine OW.rv (RV.cut_o _ rfl rfl rfl rfl rfl (by omega)) rfl ?_ | refine OW.rv (RV.cut_hi _ rfl rfl rfl rfl rfl (by omega)) rfl ?_)
      refine OW.rv (RV.assign rfl) rfl ?_
      refine OW.nil ?_
      (repeat (first | refine CW.seq ?_ | refine QW.then_n ?_ | refine CW.block ?_ | refine CW.ret ?_ | refine CW.skip ?_ | refine CW.exit ?_ | refine QW.then_x ?_ | refine QW.then_r ?_ | refine QW.block_n ?_ | refine QW.block_xe ?_ | refine QW.block_xn rfl ?_ | refine QW.block_r ?_))
      exact QW.ret1 rfl (b, r, cap) (by rw [List.length_append, h5]; exact h3) rfl (fun _ m => m)
theorem still_does (w0 : World) (M : List Ent) (b : Nat) (r : List Value) (cap : Nat) (A : Option Addr) (ca : Nat) (xs : List (BitVec 8)) (he : (some b, blk (u8s (xs ++ marks 70) ++ r) 5) ∈ M) (hA : Mem.Says w0 M (fun w => Rd w A (u8s xs))) {la : Nat} (hla : xs.length = la) (hcap : la + 70 ≤ cap) (hx : la ≤ 140737488351232) :
    Does Tryd.prog 14 [sl (some b) 0 la cap, .slice A la ca] w0 M (τ := Unit) (fun _ => True) (fun _ => .bool true) (fun _ => M) := by
  subst hla
  refine Does.of_mem fun w1 m1 => ?_
  have sA : ∀ i, i < xs.length → A.isSome = true := fun i hi => Rd.someOf (f := U8) (hA w1 m1) hi
  refine Does.enter Tryd.func14 rfl Tryd.ntmps14 rfl ?_
  (repeat (first | refine CW.seq ?_ | refine QW.then_n ?_ | refine CW.block ?_ | refine CW.ret ?_ | refine CW.skip ?_ | refine CW.exit ?_ | refine QW.then_x ?_ | refine QW.then_r ?_ | refine QW.block_n ?_ | refine QW.block_xe ?_ | refine QW.block_xn rfl ?_ | refine QW.block_r ?_))
  refine CW.region ?_
  refine OW.rv (RV.assign rfl) rfl ?_
  refine OW.nil ?_
  (repeat (first | refine CW.seq ?_ | refine QW.then_n ?_ | refine CW.block ?_ | refine CW.ret ?_ | refine CW.skip ?_ | refine CW.exit ?_ | refine QW.then_x ?_ | refine QW.then_r ?_ | refine QW.block_n ?_ | refine QW.block_xe ?_ | refine QW.block_xn rfl ?_ | refine QW.block_r ?_))
  (repeat (first | refine CW.seq ?_ | refine QW.then_n ?_ | refine CW.block ?_ | refine CW.ret ?_ | refine CW.skip ?_ | refine CW.exit ?_ | refine QW.then_x ?_ | refine QW.then_r ?_ | refine QW.block_n ?_ | refine QW.block_xe ?_ | refine QW.block_xn rfl ?_ | refine QW.block_r ?_))
  refine CW.region ?_
  refine OW.rv (RV.move rfl) rfl ?_
  refine OW.rv (RV.len rfl rfl) rfl ?_
  refine OW.rv (RV.move rfl) rfl ?_
  refine OW.rv (RV.len rfl rfl) rfl ?_
  (first | refine OW.rv (RV.neq_t rfl rfl (by omega)) rfl ?_ | refine OW.rv (RV.neq_f rfl rfl (by omega)) rfl ?_ | refine OW.rv (RV.neq rfl rfl) rfl ?_)
  refine OW.nil ?_
  (repeat (first | refine CW.seq ?_ | refine QW.then_n ?_ | refine CW.block ?_ | refine CW.ret ?_ | refine CW.skip ?_ | refine CW.exit ?_ | refine QW.then_x ?_ | refine QW.then_r ?_ | refine QW.block_n ?_ | refine QW.block_xe ?_ | refine QW.block_xn rfl ?_ | refine QW.block_r ?_))
  (first | refine CW.cond_t rfl ?_ | refine CW.cond_f rfl ?_ | refine CW.cond_p rfl (fun hq => ?_) (fun hq => ?_) | refine CW.cond_np rfl (fun hq => ?_) (fun hq => ?_) | refine CW.cond rfl (fun hq => ?_) (fun hq => ?_))
  (repeat (first | refine CW.seq ?_ | refine QW.then_n ?_ | refine CW.block ?_ | refine CW.ret ?_ | refine CW.skip ?_ | refine CW.exit ?_ | refine QW.then_x ?_ | refine QW.then_r ?_ | refine QW.block_n ?_ | refine QW.block_xe ?_ | refine QW.block_xn rfl ?_ | refine QW.block_r ?_))
  refine CW.region ?_
  refine OW.rv (RV.move rfl) rfl ?_
  refine OW.rv (RV.move rfl) rfl ?_
  refine OW.rv (RV.len rfl rfl) rfl ?_
  refine OW.rv (RV.add rfl rfl (by omega)) rfl ?_
  (first | refine OW.rv (RV.cut_o _ rfl rfl rfl rfl rfl (by omega)) rfl ?_ | refine OW.rv (RV.cut_hi _ rfl rfl rfl rfl rfl (by omega)) rfl ?_)
  refine OW.rv (RV.assign rfl) rfl ?_
  refine OW.nil ?_
  (repeat (first | refine CW.seq ?_ | refine QW.then_n ?_ | refine CW.block ?_ | refine CW.ret ?_ | refine CW.skip ?_ | refine CW.exit ?_ | refine QW.then_x ?_ | refine QW.then_r ?_ | refine QW.block_n ?_ | refine QW.block_xe ?_ | refine QW.block_xn rfl ?_ | refine QW.block_r ?_))
  (repeat (first | refine CW.seq ?_ | refine QW.then_n ?_ | refine CW.block ?_ | refine CW.ret ?_ | refine CW.skip ?_ | refine CW.exit ?_ | refine QW.then_x ?_ | refine QW.then_r ?_ | refine QW.block_n ?_ | refine QW.block_xe ?_ | refine QW.block_xn rfl ?_ | refine QW.block_r ?_))
  refine CW.region ?_
  refine OW.rv (RV.assign rfl) rfl ?_
  refine OW.nil ?_
  (repeat (first | refine CW.seq ?_ | refine QW.then_n ?_ | refine CW.block ?_ | refine CW.ret ?_ | refine CW.skip ?_ | refine CW.exit ?_ | refine QW.then_x ?_ | refine QW.then_r ?_ | refine QW.block_n ?_ | refine QW.block_xe ?_ | refine QW.block_xn rfl ?_ | refine QW.block_r ?_))
  refine CW.loop (σ := Nat) (fun i => i ≤ xs.length + 70) (fun i => [(1, .slice A xs.length ca), (5, sl (some b) 0 (xs.length + 70) cap), (6, .int .i64 (i : Int))]) (fun _ => M) (fun i => xs.length + 70 - i) 0 (by omega) ⟨rfl, rfl, rfl, trivial⟩ (fun _ m => m) ?_
  intro i hi
  (repeat (first | refine CW.seq ?_ | refine QW.then_n ?_ | refine CW.block ?_ | refine CW.ret ?_ | refine CW.skip ?_ | refine CW.exit ?_ | refine QW.then_x ?_ | refine QW.then_r ?_ | refine QW.block_n ?_ | refine QW.block_xe ?_ | refine QW.block_xn rfl ?_ | refine QW.block_r ?_))
  refine CW.region ?_
  refine OW.rv (RV.move rfl) rfl ?_
  refine OW.rv (RV.move rfl) rfl ?_
  refine OW.rv (RV.len rfl rfl) rfl ?_
  refine OW.rv (RV.lss rfl rfl) rfl ?_
  refine OW.nil ?_
  (repeat (first | refine CW.seq ?_ | refine QW.then_n ?_ | refine CW.block ?_ | refine CW.ret ?_ | refine CW.skip ?_ | refine CW.exit ?_ | refine QW.then_x ?_ | refine QW.then_r ?_ | refine QW.block_n ?_ | refine QW.block_xe ?_ | refine QW.block_xn rfl ?_ | refine QW.block_r ?_))
  (first | refine CW.cond_t rfl ?_ | refine CW.cond_f rfl ?_ | refine CW.cond_p rfl (fun hlt => ?_) (fun hlt => ?_) | refine CW.cond_np rfl (fun hlt => ?_) (fun hlt => ?_) | refine CW.cond rfl (fun hlt => ?_) (fun hlt => ?_))
  · have hi2 : i < xs.length + 70 := by omega
    rcases Nat.lt_or_ge i xs.length with h1 | h1
    · have s1 := sA i h1
      have l1 : Mem.Says w0 M (fun w => w.cell? ((A.getD default).add i) = some (U8 (xs.getD i 0#8))) := fun w m => (hA w m).cell (u8s_get h1)
      have g1 : (u8s (xs ++ marks 70) ++ r)[0 + i]? = some (U8 (xs.getD i 0#8)) := by
        rw [Nat.zero_add, List.getElem?_append_left (by simp; omega), u8s_get (by simp; omega), getD_left h1]
      (repeat (first | refine CW.seq ?_ | refine QW.then_n ?_ | refine CW.block ?_ | refine CW.ret ?_ | refine CW.skip ?_ | refine CW.exit ?_ | refine QW.then_x ?_ | refine QW.then_r ?_ | refine QW.block_n ?_ | refine QW.block_xe ?_ | refine QW.block_xn rfl ?_ | refine QW.block_r ?_))
      refine CW.draws mixed (by kernel_rfl) ?_
      refine DW.rv (RV.move rfl) rfl ?_
      refine DW.rv (RV.move rfl) rfl ?_
      refine DW.rv (RV.len rfl rfl) rfl ?_
      (first | refine DW.rv (RV.lss_t rfl rfl (by omega)) rfl ?_ | refine DW.rv (RV.lss_f rfl rfl (by omega)) rfl ?_ | refine DW.rv (RV.lss rfl rfl) rfl ?_)
      refine DW.rv (RV.move rfl) rfl ?_
      (first | (refine DW.want rfl ?_; refine DW.rv (RV.move rfl) rfl ?_) | refine DW.skip rfl rfl rfl ?_)
      (first | (refine DW.want rfl ?_; refine DW.rv (RV.move rfl) rfl ?_) | refine DW.skip rfl rfl rfl ?_)
      (first | (refine DW.want rfl ?_; (first | refine DW.rv (RV.idx_o _ rfl rfl rfl rfl rfl (by first | rfl | assumption) (by omega)) rfl ?_ | refine DW.rv (RV.idx_r _ rfl rfl rfl rfl rfl (by first | rfl | assumption) (by omega)) rfl ?_ | refine DW.rv (RV.idx_oz rfl rfl (by omega) rfl rfl (by first | rfl | assumption) (by omega)) rfl ?_ | refine DW.rv (RV.idx_rz rfl rfl (by omega) rfl rfl (by first | rfl | assumption) (by omega)) rfl ?_)) | refine DW.skip rfl rfl rfl ?_)
      (first | (refine DW.want rfl ?_; (first | refine DW.rv (RV.load rfl (by (repeat (first | exact List.Mem.head _ | assumption | refine List.Mem.tail _ ?_)); done) (by first | rfl | assumption) rfl rfl (by first | rfl | assumption)) rfl ?_ | refine DW.rv (RV.load_at rfl rfl rfl (by (repeat (first | assumption | refine Mem.Says.cons ?_)); done)) rfl ?_)) | refine DW.skip rfl rfl rfl ?_)
      (first | (refine DW.want rfl ?_; refine DW.rv (RV.move rfl) rfl ?_) | refine DW.skip rfl rfl rfl ?_)
      (first | (refine DW.want rfl ?_; refine DW.rv (RV.move rfl) rfl ?_) | refine DW.skip rfl rfl rfl ?_)
      (first | (refine DW.want rfl ?_; (first | refine DW.rv (RV.idx_o _ rfl rfl rfl rfl rfl (by first | rfl | assumption) (by omega)) rfl ?_ | refine DW.rv (RV.idx_r _ rfl rfl rfl rfl rfl (by first | rfl | assumption) (by omega)) rfl ?_ | refine DW.rv (RV.idx_oz rfl rfl (by omega) rfl rfl (by first | rfl | assumption) (by omega)) rfl ?_ | refine DW.rv (RV.idx_rz rfl rfl (by omega) rfl rfl (by first | rfl | assumption) (by omega)) rfl ?_)) | refine DW.skip rfl rfl rfl ?_)
      (first | (refine DW.want rfl ?_; (first | refine DW.rv (RV.load rfl (by (repeat (first | exact List.Mem.head _ | assumption | refine List.Mem.tail _ ?_)); done) (by first | rfl | assumption) rfl rfl (by first | rfl | assumption)) rfl ?_ | refine DW.rv (RV.load_at rfl rfl rfl (by (repeat (first | assumption | refine Mem.Says.cons ?_)); done)) rfl ?_)) | refine DW.skip rfl rfl rfl ?_)
      (first | (refine DW.want rfl ?_; (first | refine DW.rv (RV.neq8_t rfl (by first | rfl | exact lit8 _ rfl) rfl (by first | rfl | exact lit8 _ rfl) (by first | rfl | assumption | decide)) rfl ?_ | refine DW.rv (RV.neq8_f rfl (by first | rfl | exact lit8 _ rfl) rfl (by first | rfl | exact lit8 _ rfl) (by first | rfl | assumption | decide)) rfl ?_ | refine DW.rv (RV.neq8 rfl (by first | rfl | exact lit8 _ rfl) rfl (by first | rfl | exact lit8 _ rfl)) rfl ?_)) | refine DW.skip rfl rfl rfl ?_)
      (first | refine DW.rv (RV.pick_t rfl rfl rfl) rfl ?_ | refine DW.rv (RV.pick_f rfl rfl rfl) rfl ?_ | refine DW.rv (RV.pick rfl rfl rfl) rfl ?_)
      refine DW.rv (RV.move rfl) rfl ?_
      (first | (refine DW.want rfl ?_; refine DW.rv (RV.move rfl) rfl ?_) | refine DW.skip rfl rfl rfl ?_)
      (first | (refine DW.want rfl ?_; refine DW.rv (RV.move rfl) rfl ?_) | refine DW.skip rfl rfl rfl ?_)
      (first | (refine DW.want rfl ?_; refine DW.rv (RV.len rfl rfl) rfl ?_) | refine DW.skip rfl rfl rfl ?_)
      (first | (refine DW.want rfl ?_; (first | refine DW.rv (RV.geq_t rfl rfl (by omega)) rfl ?_ | refine DW.rv (RV.geq_f rfl rfl (by omega)) rfl ?_ | refine DW.rv (RV.geq rfl rfl) rfl ?_)) | refine DW.skip rfl rfl rfl ?_)
      (first | (refine DW.want rfl ?_; refine DW.rv (RV.move rfl) rfl ?_) | refine DW.skip rfl rfl rfl ?_)
      (first | (refine DW.want rfl ?_; refine DW.rv (RV.move rfl) rfl ?_) | refine DW.skip rfl rfl rfl ?_)
      (first | (refine DW.want rfl ?_; refine DW.rv (RV.move rfl) rfl ?_) | refine DW.skip rfl rfl rfl ?_)
      (first | (refine DW.want rfl ?_; (first | refine DW.rv (RV.idx_o _ rfl rfl rfl rfl rfl (by first | rfl | assumption) (by omega)) rfl ?_ | refine DW.rv (RV.idx_r _ rfl rfl rfl rfl rfl (by first | rfl | assumption) (by omega)) rfl ?_ | refine DW.rv (RV.idx_oz rfl rfl (by omega) rfl rfl (by first | rfl | assumption) (by omega)) rfl ?_ | refine DW.rv (RV.idx_rz rfl rfl (by omega) rfl rfl (by first | rfl | assumption) (by omega)) rfl ?_)) | refine DW.skip rfl rfl rfl ?_)
      (first | (refine DW.want rfl ?_; (first | refine DW.rv (RV.load rfl (by (repeat (first | exact List.Mem.head _ | assumption | refine List.Mem.tail _ ?_)); done) (by first | rfl | assumption) rfl rfl (by first | rfl | assumption)) rfl ?_ | refine DW.rv (RV.load_at rfl rfl rfl (by (repeat (first | assumption | refine Mem.Says.cons ?_)); done)) rfl ?_)) | refine DW.skip rfl rfl rfl ?_)
      (first | (refine DW.want rfl ?_; (first | refine DW.rv (RV.neq8_t rfl (by first | rfl | exact lit8 _ rfl) rfl (by first | rfl | exact lit8 _ rfl) (by first | rfl | assumption | decide)) rfl ?_ | refine DW.rv (RV.neq8_f rfl (by first | rfl | exact lit8 _ rfl) rfl (by first | rfl | exact lit8 _ rfl) (by first | rfl | assumption | decide)) rfl ?_ | refine DW.rv (RV.neq8 rfl (by first | rfl | exact lit8 _ rfl) rfl (by first | rfl | exact lit8 _ rfl)) rfl ?_)) | refine DW.skip rfl rfl rfl ?_)
      (first | (refine DW.want rfl ?_; (first | refine DW.rv (RV.pick_t rfl rfl rfl) rfl ?_ | refine DW.rv (RV.pick_f rfl rfl rfl) rfl ?_ | refine DW.rv (RV.pick rfl rfl rfl) rfl ?_)) | refine DW.skip rfl rfl rfl ?_)
      (first | refine DW.rv (RV.pick_t rfl rfl rfl) rfl ?_ | refine DW.rv (RV.pick_f rfl rfl rfl) rfl ?_ | refine DW.rv (RV.pick rfl rfl rfl) rfl ?_)
      refine DW.nil ?_
      (repeat (first | refine CW.seq ?_ | refine QW.then_n ?_ | refine CW.block ?_ | refine CW.ret ?_ | refine CW.skip ?_ | refine CW.exit ?_ | refine QW.then_x ?_ | refine QW.then_r ?_ | refine QW.block_n ?_ | refine QW.block_xe ?_ | refine QW.block_xn rfl ?_ | refine QW.block_r ?_))
      (first | refine CW.cond_t rfl ?_ | refine CW.cond_f rfl ?_ | refine CW.cond_p rfl (fun hh => ?_) (fun hh => ?_) | refine CW.cond_np rfl (fun hh => ?_) (fun hh => ?_) | refine CW.cond rfl (fun hh => ?_) (fun hh => ?_))
      (repeat (first | refine CW.seq ?_ | refine QW.then_n ?_ | refine CW.block ?_ | refine CW.ret ?_ | refine CW.skip ?_ | refine CW.exit ?_ | refine QW.then_x ?_ | refine QW.then_r ?_ | refine QW.block_n ?_ | refine QW.block_xe ?_ | refine QW.block_xn rfl ?_ | refine QW.block_r ?_))
      refine CW.region ?_
      refine OW.rv (RV.move rfl) rfl ?_
      refine OW.rv (RV.add rfl rfl (by omega)) rfl ?_
      refine OW.rv (RV.assign rfl) rfl ?_
      refine OW.nil ?_
      (repeat (first | refine CW.seq ?_ | refine QW.then_n ?_ | refine CW.block ?_ | refine CW.ret ?_ | refine CW.skip ?_ | refine CW.exit ?_ | refine QW.then_x ?_ | refine QW.then_r ?_ | refine QW.block_n ?_ | refine QW.block_xe ?_ | refine QW.block_xn rfl ?_ | refine QW.block_r ?_))
      exact QW.again (i + 1) (by omega) (by omega) ⟨rfl, rfl, rfl, trivial⟩ (fun _ m => m)
    · have g1 : (u8s (xs ++ marks 70) ++ r)[0 + i]? = some (U8 165#8) := by
        rw [Nat.zero_add, List.getElem?_append_left (by simp; omega), u8s_get (by simp; omega)]
        simp only [List.getD]
        rw [List.getElem?_append_right h1, marks, List.getElem?_replicate, if_pos (by omega)]; rfl
      (repeat (first | refine CW.seq ?_ | refine QW.then_n ?_ | refine CW.block ?_ | refine CW.ret ?_ | refine CW.skip ?_ | refine CW.exit ?_ | refine QW.then_x ?_ | refine QW.then_r ?_ | refine QW.block_n ?_ | refine QW.block_xe ?_ | refine QW.block_xn rfl ?_ | refine QW.block_r ?_))
      refine CW.draws mixed (by kernel_rfl) ?_
      refine DW.rv (RV.move rfl) rfl ?_
      refine DW.rv (RV.move rfl) rfl ?_
      refine DW.rv (RV.len rfl rfl) rfl ?_
      (first | refine DW.rv (RV.lss_t rfl rfl (by omega)) rfl ?_ | refine DW.rv (RV.lss_f rfl rfl (by omega)) rfl ?_ | refine DW.rv (RV.lss rfl rfl) rfl ?_)
      refine DW.rv (RV.move rfl) rfl ?_
      (first | (refine DW.want rfl ?_; refine DW.rv (RV.move rfl) rfl ?_) | refine DW.skip rfl rfl rfl ?_)
      (first | (refine DW.want rfl ?_; refine DW.rv (RV.move rfl) rfl ?_) | refine DW.skip rfl rfl rfl ?_)
      (first | (refine DW.want rfl ?_; (first | refine DW.rv (RV.idx_o _ rfl rfl rfl rfl rfl (by first | rfl | assumption) (by omega)) rfl ?_ | refine DW.rv (RV.idx_r _ rfl rfl rfl rfl rfl (by first | rfl | assumption) (by omega)) rfl ?_ | refine DW.rv (RV.idx_oz rfl rfl (by omega) rfl rfl (by first | rfl | assumption) (by omega)) rfl ?_ | refine DW.rv (RV.idx_rz rfl rfl (by omega) rfl rfl (by first | rfl | assumption) (by omega)) rfl ?_)) | refine DW.skip rfl rfl rfl ?_)
      (first | (refine DW.want rfl ?_; (first | refine DW.rv (RV.load rfl (by (repeat (first | exact List.Mem.head _ | assumption | refine List.Mem.tail _ ?_)); done) (by first | rfl | assumption) rfl rfl (by first | rfl | assumption)) rfl ?_ | refine DW.rv (RV.load_at rfl rfl rfl (by (repeat (first | assumption | refine Mem.Says.cons ?_)); done)) rfl ?_)) | refine DW.skip rfl rfl rfl ?_)
      (first | (refine DW.want rfl ?_; refine DW.rv (RV.move rfl) rfl ?_) | refine DW.skip rfl rfl rfl ?_)
      (first | (refine DW.want rfl ?_; refine DW.rv (RV.move rfl) rfl ?_) | refine DW.skip rfl rfl rfl ?_)
      (first | (refine DW.want rfl ?_; (first | refine DW.rv (RV.idx_o _ rfl rfl rfl rfl rfl (by first | rfl | assumption) (by omega)) rfl ?_ | refine DW.rv (RV.idx_r _ rfl rfl rfl rfl rfl (by first | rfl | assumption) (by omega)) rfl ?_ | refine DW.rv (RV.idx_oz rfl rfl (by omega) rfl rfl (by first | rfl | assumption) (by omega)) rfl ?_ | refine DW.rv (RV.idx_rz rfl rfl (by omega) rfl rfl (by first | rfl | assumption) (by omega)) rfl ?_)) | refine DW.skip rfl rfl rfl ?_)
      (first | (refine DW.want rfl ?_; (first | refine DW.rv (RV.load rfl (by (repeat (first | exact List.Mem.head _ | assumption | refine List.Mem.tail _ ?_)); done) (by first | rfl | assumption) rfl rfl (by first | rfl | assumption)) rfl ?_ | refine DW.rv (RV.load_at rfl rfl rfl (by (repeat (first | assumption | refine Mem.Says.cons ?_)); done)) rfl ?_)) | refine DW.skip rfl rfl rfl ?_)
      (first | (refine DW.want rfl ?_; (first | refine DW.rv (RV.neq8_t rfl (by first | rfl | exact lit8 _ rfl) rfl (by first | rfl | exact lit8 _ rfl) (by first | rfl | assumption | decide)) rfl ?_ | refine DW.rv (RV.neq8_f rfl (by first | rfl | exact lit8 _ rfl) rfl (by first | rfl | exact lit8 _ rfl) (by first | rfl | assumption | decide)) rfl ?_ | refine DW.rv (RV.neq8 rfl (by first | rfl | exact lit8 _ rfl) rfl (by first | rfl | exact lit8 _ rfl)) rfl ?_)) | refine DW.skip rfl rfl rfl ?_)
      (first | refine DW.rv (RV.pick_t rfl rfl rfl) rfl ?_ | refine DW.rv (RV.pick_f rfl rfl rfl) rfl ?_ | refine DW.rv (RV.pick rfl rfl rfl) rfl ?_)
      refine DW.rv (RV.move rfl) rfl ?_
      (first | (refine DW.want rfl ?_; refine DW.rv (RV.move rfl) rfl ?_) | refine DW.skip rfl rfl rfl ?_)
      (first | (refine DW.want rfl ?_; refine DW.rv (RV.move rfl) rfl ?_) | refine DW.skip rfl rfl rfl ?_)
      (first | (refine DW.want rfl ?_; refine DW.rv (RV.len rfl rfl) rfl ?_) | refine DW.skip rfl rfl rfl ?_)
      (first | (refine DW.want rfl ?_; (first | refine DW.rv (RV.geq_t rfl rfl (by omega)) rfl ?_ | refine DW.rv (RV.geq_f rfl rfl (by omega)) rfl ?_ | refine DW.rv (RV.geq rfl rfl) rfl ?_)) | refine DW.skip rfl rfl rfl ?_)
      (first | (refine DW.want rfl ?_; refine DW.rv (RV.move rfl) rfl ?_) | refine DW.skip rfl rfl rfl ?_)
      (first | (refine DW.want rfl ?_; refine DW.rv (RV.move rfl) rfl ?_) | refine DW.skip rfl rfl rfl ?_)
      (first | (refine DW.want rfl ?_; refine DW.rv (RV.move rfl) rfl ?_) | refine DW.skip rfl rfl rfl ?_)
      (first | (refine DW.want rfl ?_; (first | refine DW.rv (RV.idx_o _ rfl rfl rfl rfl rfl (by first | rfl | assumption) (by omega)) rfl ?_ | refine DW.rv (RV.idx_r _ rfl rfl rfl rfl rfl (by first | rfl | assumption) (by omega)) rfl ?_ | refine DW.rv (RV.idx_oz rfl rfl (by omega) rfl rfl (by first | rfl | assumption) (by omega)) rfl ?_ | refine DW.rv (RV.idx_rz rfl rfl (by omega) rfl rfl (by first | rfl | assumption) (by omega)) rfl ?_)) | refine DW.skip rfl rfl rfl ?_)
      (first | (refine DW.want rfl ?_; (first | refine DW.rv (RV.load rfl (by (repeat (first | exact List.Mem.head _ | assumption | refine List.Mem.tail _ ?_)); done) (by first | rfl | assumption) rfl rfl (by first | rfl | assumption)) rfl ?_ | refine DW.rv (RV.load_at rfl rfl rfl (by (repeat (first | assumption | refine Mem.Says.cons ?_)); done)) rfl ?_)) | refine DW.skip rfl rfl rfl ?_)
      (first | (refine DW.want rfl ?_; (first | refine DW.rv (RV.neq8_t rfl (by first | rfl | exact lit8 _ rfl) rfl (by first | rfl | exact lit8 _ rfl) (by first | rfl | assumption | decide)) rfl ?_ | refine DW.rv (RV.neq8_f rfl (by first | rfl | exact lit8 _ rfl) rfl (by first | rfl | exact lit8 _ rfl) (by first | rfl | assumption | decide)) rfl ?_ | refine DW.rv (RV.neq8 rfl (by first | rfl | exact lit8 _ rfl) rfl (by first | rfl | exact lit8 _ rfl)) rfl ?_)) | refine DW.skip rfl rfl rfl ?_)
      (first | (refine DW.want rfl ?_; (first | refine DW.rv (RV.pick_t rfl rfl rfl) rfl ?_ | refine DW.rv (RV.pick_f rfl rfl rfl) rfl ?_ | refine DW.rv (RV.pick rfl rfl rfl) rfl ?_)) | refine DW.skip rfl rfl rfl ?_)
      (first | refine DW.rv (RV.pick_t rfl rfl rfl) rfl ?_ | refine DW.rv (RV.pick_f rfl rfl rfl) rfl ?_ | refine DW.rv (RV.pick rfl rfl rfl) rfl ?_)
      refine DW.nil ?_
      (repeat (first | refine CW.seq ?_ | refine QW.then_n ?_ | refine CW.block ?_ | refine CW.ret ?_ | refine CW.skip ?_ | refine CW.exit ?_ | refine QW.then_x ?_ | refine QW.then_r ?_ | refine QW.block_n ?_ | refine QW.block_xe ?_ | refine QW.block_xn rfl ?_ | refine QW.block_r ?_))
      (first | refine CW.cond_t rfl ?_ | refine CW.cond_f rfl ?_ | refine CW.cond_p rfl (fun hh => ?_) (fun hh => ?_) | refine CW.cond_np rfl (fun hh => ?_) (fun hh => ?_) | refine CW.cond rfl (fun hh => ?_) (fun hh => ?_))
      (repeat (first | refine CW.seq ?_ | refine QW.then_n ?_ | refine CW.block ?_ | refine CW.ret ?_ | refine CW.skip ?_ | refine CW.exit ?_ | refine QW.then_x ?_ | refine QW.then_r ?_ | refine QW.block_n ?_ | refine QW.block_xe ?_ | refine QW.block_xn rfl ?_ | refine QW.block_r ?_))
      refine CW.region ?_
      refine OW.rv (RV.move rfl) rfl ?_
      refine OW.rv (RV.add rfl rfl (by omega)) rfl ?_
      refine OW.rv (RV.assign rfl) rfl ?_
      refine OW.nil ?_
      (repeat (first | refine CW.seq ?_ | refine QW.then_n ?_ | refine CW.block ?_ | refine CW.ret ?_ | refine CW.skip ?_ | refine CW.exit ?_ | refine QW.then_x ?_ | refine QW.then_r ?_ | refine QW.block_n ?_ | refine QW.block_xe ?_ | refine QW.block_xn rfl ?_ | refine QW.block_r ?_))
      exact QW.again (i + 1) (by omega) (by omega) ⟨rfl, rfl, rfl, trivial⟩ (fun _ m => m)
  · (repeat (first | refine CW.seq ?_ | refine QW.then_n ?_ | refine CW.block ?_ | refine CW.ret ?_ | refine CW.skip ?_ | refine CW.exit ?_ | refine QW.then_x ?_ | refine QW.then_r ?_ | refine QW.block_n ?_ | refine QW.block_xe ?_ | refine QW.block_xn rfl ?_ | refine QW.block_r ?_))
    refine CW.region ?_
    refine OW.rv (RV.assign rfl) rfl ?_
    refine OW.nil ?_
    (repeat (first | refine CW.seq ?_ | refine QW.then_n ?_ | refine CW.block ?_ | refine CW.ret ?_ | refine CW.skip ?_ | refine CW.exit ?_ | refine QW.then_x ?_ | refine QW.then_r ?_ | refine QW.block_n ?_ | refine QW.block_xe ?_ | refine QW.block_xn rfl ?_ | refine QW.block_r ?_))
    exact QW.ret1 rfl () trivial rfl (fun _ m => m)
theorem turn_does (w0 : World) (M : List Ent) (b : Nat) (r : List Value) (cap : Nat) (xs : List (BitVec 8)) {la : Nat} (hla : xs.length = la) (hx : la ≤ 140737488351232) :
    Does Tryd.prog 17 [sl (some b) 0 la cap] w0 ((some b, blk (u8s xs ++ r) 5) :: M) (τ := List (BitVec 8)) (fun ys => ys.length = la) (fun _ => .tuple #[]) (fun ys => (some b, blk (u8s ys ++ r) 5) :: M) := by
  refine Does.enter Tryd.func17 rfl Tryd.ntmps17 rfl ?_
  (repeat (first | refine CW.seq ?_ | refine QW.then_n ?_ | refine CW.block ?_ | refine CW.ret ?_ | refine CW.skip ?_ | refine CW.exit ?_ | refine QW.then_x ?_ | refine QW.then_r ?_ | refine QW.block_n ?_ | refine QW.block_xe ?_ | refine QW.block_xn rfl ?_ | refine QW.block_r ?_))
  refine CW.region ?_
  refine OW.rv (RV.assign rfl) rfl ?_
  refine OW.nil ?_
  (repeat (first | refine CW.seq ?_ | refine QW.then_n ?_ | refine CW.block ?_ | refine CW.ret ?_ | refine CW.skip ?_ | refine CW.exit ?_ | refine QW.then_x ?_ | refine QW.then_r ?_ | refine QW.block_n ?_ | refine QW.block_xe ?_ | refine QW.block_xn rfl ?_ | refine QW.block_r ?_))
  refine CW.loop (σ := Nat × List (BitVec 8)) (fun s => s.1 ≤ la ∧ s.2.length = la) (fun s => [(0, sl (some b) 0 la cap), (2, .int .i64 (s.1 : Int))]) (fun s => (some b, blk (u8s s.2 ++ r) 5) :: M) (fun s => la - s.1) (0, xs) ⟨by simp, hla⟩ ⟨rfl, rfl, trivial⟩ (fun _ m => m) ?_
  rintro ⟨i, ys⟩ ⟨hi, hy⟩
  dsimp only at hi hy ⊢
  (repeat (first | refine CW.seq ?_ | refine QW.then_n ?_ | refine CW.block ?_ | refine CW.ret ?_ | refine CW.skip ?_ | refine CW.exit ?_ | refine QW.then_x ?_ | refine QW.then_r ?_ | refine QW.block_n ?_ | refine QW.block_xe ?_ | refine QW.block_xn rfl ?_ | refine QW.block_r ?_))
  refine CW.region ?_
  refine OW.rv (RV.move rfl) rfl ?_
  refine OW.rv (RV.move rfl) rfl ?_
  refine OW.rv (RV.len rfl rfl) rfl ?_
  refine OW.rv (RV.lss rfl rfl) rfl ?_
  refine OW.nil ?_
  (repeat (first | refine CW.seq ?_ | refine QW.then_n ?_ | refine CW.block ?_ | refine CW.ret ?_ | refine CW.skip ?_ | refine CW.exit ?_ | refine QW.then_x ?_ | refine QW.then_r ?_ | refine QW.block_n ?_ | refine QW.block_xe ?_ | refine QW.block_xn rfl ?_ | refine QW.block_r ?_))
  (first | refine CW.cond_t rfl ?_ | refine CW.cond_f rfl ?_ | refine CW.cond_p rfl (fun hlt => ?_) (fun hlt => ?_) | refine CW.cond_np rfl (fun hlt => ?_) (fun hlt => ?_) | refine CW.cond rfl (fun hlt => ?_) (fun hlt => ?_))
  · have hi2 : i < ys.length := by omega
    have g1 : (u8s ys ++ r)[0 + i]? = some (U8 (ys.getD i 0#8)) := by rw [Nat.zero_add, List.getElem?_append_left (by rw [u8s_length]; omega)]; exact u8s_get hi2
    have hl2 : 0 + i < (u8s ys ++ r).length := by rw [List.length_append, u8s_length]; omega
    (repeat (first | refine CW.seq ?_ | refine QW.then_n ?_ | refine CW.block ?_ | refine CW.ret ?_ | refine CW.skip ?_ | refine CW.exit ?_ | refine QW.then_x ?_ | refine QW.then_r ?_ | refine QW.block_n ?_ | refine QW.block_xe ?_ | refine QW.block_xn rfl ?_ | refine QW.block_r ?_))
    refine CW.region ?_
    refine OW.rv (RV.move rfl) rfl ?_
    refine OW.rv (RV.move rfl) rfl ?_
    refine OW.rv (RV.move rfl) rfl ?_
    refine OW.rv (RV.move rfl) rfl ?_
    (first | refine OW.rv (RV.idx_o _ rfl rfl rfl rfl rfl (by first | rfl | assumption) (by omega)) rfl ?_ | refine OW.rv (RV.idx_r _ rfl rfl rfl rfl rfl (by first | rfl | assumption) (by omega)) rfl ?_ | refine OW.rv (RV.idx_oz rfl rfl (by omega) rfl rfl (by first | rfl | assumption) (by omega)) rfl ?_ | refine OW.rv (RV.idx_rz rfl rfl (by omega) rfl rfl (by first | rfl | assumption) (by omega)) rfl ?_)
    (first | refine OW.rv (RV.load rfl (by (repeat (first | exact List.Mem.head _ | assumption | refine List.Mem.tail _ ?_)); done) (by first | rfl | assumption) rfl rfl (by first | rfl | assumption)) rfl ?_ | refine OW.rv (RV.load_at rfl rfl rfl (by (repeat (first | assumption | refine Mem.Says.cons ?_)); done)) rfl ?_)
    refine OW.rv (RV.xor8 rfl (by first | rfl | exact lit8 _ rfl) rfl (by first | rfl | exact lit8 _ rfl)) rfl ?_
    (first | refine OW.rv (RV.idx_o _ rfl rfl rfl rfl rfl (by first | rfl | assumption) (by omega)) rfl ?_ | refine OW.rv (RV.idx_r _ rfl rfl rfl rfl rfl (by first | rfl | assumption) (by omega)) rfl ?_ | refine OW.rv (RV.idx_oz rfl rfl (by omega) rfl rfl (by first | rfl | assumption) (by omega)) rfl ?_ | refine OW.rv (RV.idx_rz rfl rfl (by omega) rfl rfl (by first | rfl | assumption) (by omega)) rfl ?_)
    (first | refine OW.sv (SV.store rfl (by first | rfl | assumption) rfl rfl rfl (by first | assumption | (simp; done) | (simp; omega) | omega)) ?_ | (refine OW.rot1 ?_; refine OW.sv (SV.store rfl (by first | rfl | assumption) rfl rfl rfl (by first | assumption | (simp; done) | (simp; omega) | omega)) ?_) | (refine OW.rot2 ?_; refine OW.sv (SV.store rfl (by first | rfl | assumption) rfl rfl rfl (by first | assumption | (simp; done) | (simp; omega) | omega)) ?_) | (refine OW.rot3 ?_; refine OW.sv (SV.store rfl (by first | rfl | assumption) rfl rfl rfl (by first | assumption | (simp; done) | (simp; omega) | omega)) ?_) | (refine OW.rot4 ?_; refine OW.sv (SV.store rfl (by first | rfl | assumption) rfl rfl rfl (by first | assumption | (simp; done) | (simp; omega) | omega)) ?_))
    refine OW.nil ?_
    (repeat (first | refine CW.seq ?_ | refine QW.then_n ?_ | refine CW.block ?_ | refine CW.ret ?_ | refine CW.skip ?_ | refine CW.exit ?_ | refine QW.then_x ?_ | refine QW.then_r ?_ | refine QW.block_n ?_ | refine QW.block_xe ?_ | refine QW.block_xn rfl ?_ | refine QW.block_r ?_))
    (repeat (first | refine CW.seq ?_ | refine QW.then_n ?_ | refine CW.block ?_ | refine CW.ret ?_ | refine CW.skip ?_ | refine CW.exit ?_ | refine QW.then_x ?_ | refine QW.then_r ?_ | refine QW.block_n ?_ | refine QW.block_xe ?_ | refine QW.block_xn rfl ?_ | refine QW.block_r ?_))
    refine CW.region ?_
    refine OW.rv (RV.move rfl) rfl ?_
    refine OW.rv (RV.add rfl rfl (by omega)) rfl ?_
    refine OW.rv (RV.assign rfl) rfl ?_
    refine OW.nil ?_
    (repeat (first | refine CW.seq ?_ | refine QW.then_n ?_ | refine CW.block ?_ | refine CW.ret ?_ | refine CW.skip ?_ | refine CW.exit ?_ | refine QW.then_x ?_ | refine QW.then_r ?_ | refine QW.block_n ?_ | refine QW.block_xe ?_ | refine QW.block_xn rfl ?_ | refine QW.block_r ?_))
    refine QW.again (i + 1, ys.set i (ys.getD i 0#8 ^^^ 255#8)) ⟨by show i + 1 ≤ la; omega, by simp [hy]⟩ (by show la - (i + 1) < la - i; omega) ⟨rfl, rfl, trivial⟩ (fun _ m => ?_)
    rw [← u8s_set_left hi2]
    exact m
  · (repeat (first | refine CW.seq ?_ | refine QW.then_n ?_ | refine CW.block ?_ | refine CW.ret ?_ | refine CW.skip ?_ | refine CW.exit ?_ | refine QW.then_x ?_ | refine QW.then_r ?_ | refine QW.block_n ?_ | refine QW.block_xe ?_ | refine QW.block_xn rfl ?_ | refine QW.block_r ?_))
    refine QW.ret0 rfl ys ?_ ?_ ?_ _ (by first | exact Or.inl rfl | exact Or.inr rfl)
    · exact hy
    · rfl
    · exact fun _ m => m
end Go.Fw.Tryd
