/- Part of a proof: rules that its law uses. -/
import Derived.Test.YtdmnfcjekomaiaaDoorT5
set_option linter.unusedVariables false
set_option linter.unusedSimpArgs false
set_option linter.unusedSectionVars false
set_option maxRecDepth 100000
set_option maxHeartbeats 1000000
namespace Go.Fw.Tryd
open Go Go.Proofs Go.Fw
theorem hslot_item_does (w0 : World) (Φ : Ctx) (N : List Ent) (hΦ : ∀ w, Mem w0 w N → Φ w) (b : Nat) (s : Slk) (f : Fd) (res0 : It) (hs : SlotAt Φ b s f) (hf : f.item = some res0) : DoesG Tryd.prog 56 [.agg (s.cells b).toArray] w0 [] N (fun v G => ∃ B : List Ent, ∃ cr0 : List Value, (ItRd (More w0 Φ B) cr0 res0) ∧ v = .agg cr0.toArray ∧ G = B) := by
 refine DoesG.enter Tryd.func56 rfl Tryd.ntmps56 rfl (M := N) rfl ?_
 (repeat (first | refine Z4 ?_ | refine Z1 ?_ | refine CW.block ?_ | refine CW.ret ?_ | refine CW.skip ?_ | refine CW.exit ?_ | refine Z9 ?_ | refine Z8 ?_ | refine Z27 ?_ | refine Z15 ?_ | refine Z101 rfl ?_ | refine Z16 ?_))
 refine Z2 (OW.boxA rfl rfl (fun b1 => (OW.alloc rfl rfl rfl (fun b2 => (Z6 ?_)))))
 (repeat (first | refine Z4 ?_ | refine Z1 ?_ | refine CW.block ?_ | refine CW.ret ?_ | refine CW.skip ?_ | refine CW.exit ?_ | refine Z9 ?_ | refine Z8 ?_ | refine Z27 ?_ | refine Z15 ?_ | refine Z101 rfl ?_ | refine Z16 ?_))
 cases s <;> cases f <;> first | exact hs.elim | skip
 ·rename_i o n l
  obtain ⟨rfl, hv⟩ := hs
  (repeat (first | refine Z4 ?_ | refine Z1 ?_ | refine CW.block ?_ | refine CW.ret ?_ | refine CW.skip ?_ | refine CW.exit ?_ | refine Z9 ?_ | refine Z8 ?_ | refine Z27 ?_ | refine Z15 ?_ | refine Z101 rfl ?_ | refine Z16 ?_))
  refine Z2 (Z0 (Z30 rfl rfl rfl rfl) rfl ?_)
  (first | refine Z0 (Z29 rfl (by (repeat (first | exact List.Mem.head _ | assumption | refine List.Mem.tail _ ?_)); done) (by first | rfl | assumption) rfl rfl (by first | rfl | assumption)) rfl ?_ | refine Z0 (Z21 rfl rfl rfl (by (repeat (first | assumption | refine Mem.Says.cons ?_)); done)) rfl ?_)
  (first | refine Z0 (RV.neqN rfl rfl rfl) rfl ?_ | refine Z0 (RV.neqS rfl rfl rfl) rfl ?_)
  refine Z0 (Z5 rfl) rfl (Z6 ?_)
  (repeat (first | refine Z4 ?_ | refine Z1 ?_ | refine CW.block ?_ | refine CW.ret ?_ | refine CW.skip ?_ | refine CW.exit ?_ | refine Z9 ?_ | refine Z8 ?_ | refine Z27 ?_ | refine Z15 ?_ | refine Z101 rfl ?_ | refine Z16 ?_))
  (first | refine Z113 rfl ?_ | refine Z115 rfl ?_ | refine Z114 rfl (fun h0 => ?_) (fun h0 => ?_) | refine Z111 rfl (fun h0 => ?_) (fun h0 => ?_) | refine CW.cond rfl (fun h0 => ?_) (fun h0 => ?_))
  (repeat (first | refine Z4 ?_ | refine Z1 ?_ | refine CW.block ?_ | refine CW.ret ?_ | refine CW.skip ?_ | refine CW.exit ?_ | refine Z9 ?_ | refine Z8 ?_ | refine Z27 ?_ | refine Z15 ?_ | refine Z101 rfl ?_ | refine Z16 ?_))
  refine Z2 (Z0 (Z30 rfl rfl rfl rfl) rfl ?_)
  (first | refine Z0 (Z29 rfl (by (repeat (first | exact List.Mem.head _ | assumption | refine List.Mem.tail _ ?_)); done) (by first | rfl | assumption) rfl rfl (by first | rfl | assumption)) rfl ?_ | refine Z0 (Z21 rfl rfl rfl (by (repeat (first | assumption | refine Mem.Says.cons ?_)); done)) rfl ?_)
  (first | refine Z0 (RV.neqN rfl rfl rfl) rfl ?_ | refine Z0 (RV.neqS rfl rfl rfl) rfl ?_)
  refine Z0 (Z5 rfl) rfl (Z6 ?_)
  (repeat (first | refine Z4 ?_ | refine Z1 ?_ | refine CW.block ?_ | refine CW.ret ?_ | refine CW.skip ?_ | refine CW.exit ?_ | refine Z9 ?_ | refine Z8 ?_ | refine Z27 ?_ | refine Z15 ?_ | refine Z101 rfl ?_ | refine Z16 ?_))
  (first | refine Z113 rfl ?_ | refine Z115 rfl ?_ | refine Z114 rfl (fun h0 => ?_) (fun h0 => ?_) | refine Z111 rfl (fun h0 => ?_) (fun h0 => ?_) | refine CW.cond rfl (fun h0 => ?_) (fun h0 => ?_))
  (repeat (first | refine Z4 ?_ | refine Z1 ?_ | refine CW.block ?_ | refine CW.ret ?_ | refine CW.skip ?_ | refine CW.exit ?_ | refine Z9 ?_ | refine Z8 ?_ | refine Z27 ?_ | refine Z15 ?_ | refine Z101 rfl ?_ | refine Z16 ?_))
  refine Z2 (Z0 (Z30 rfl rfl rfl rfl) rfl ?_)
  (first | refine Z0 (Z29 rfl (by (repeat (first | exact List.Mem.head _ | assumption | refine List.Mem.tail _ ?_)); done) (by first | rfl | assumption) rfl rfl (by first | rfl | assumption)) rfl ?_ | refine Z0 (Z21 rfl rfl rfl (by (repeat (first | assumption | refine Mem.Says.cons ?_)); done)) rfl ?_)
  (first | refine Z0 (RV.neqN rfl rfl rfl) rfl ?_ | refine Z0 (RV.neqS rfl rfl rfl) rfl ?_)
  refine Z0 (Z5 rfl) rfl (Z6 ?_)
  (repeat (first | refine Z4 ?_ | refine Z1 ?_ | refine CW.block ?_ | refine CW.ret ?_ | refine CW.skip ?_ | refine CW.exit ?_ | refine Z9 ?_ | refine Z8 ?_ | refine Z27 ?_ | refine Z15 ?_ | refine Z101 rfl ?_ | refine Z16 ?_))
  (first | refine Z113 rfl ?_ | refine Z115 rfl ?_ | refine Z114 rfl (fun h0 => ?_) (fun h0 => ?_) | refine Z111 rfl (fun h0 => ?_) (fun h0 => ?_) | refine CW.cond rfl (fun h0 => ?_) (fun h0 => ?_))
  (repeat (first | refine Z4 ?_ | refine Z1 ?_ | refine CW.block ?_ | refine CW.ret ?_ | refine CW.skip ?_ | refine CW.exit ?_ | refine Z9 ?_ | refine Z8 ?_ | refine Z27 ?_ | refine Z15 ?_ | refine Z101 rfl ?_ | refine Z16 ?_))
  refine Z2 (Z0 (Z30 rfl rfl rfl rfl) rfl ?_)
  (first | refine Z0 (Z29 rfl (by (repeat (first | exact List.Mem.head _ | assumption | refine List.Mem.tail _ ?_)); done) (by first | rfl | assumption) rfl rfl (by first | rfl | assumption)) rfl ?_ | refine Z0 (Z21 rfl rfl rfl (by (repeat (first | assumption | refine Mem.Says.cons ?_)); done)) rfl ?_)
  refine Z12 Tryd.call80 rfl (rlp_Text_does w0 Φ ((some b2, blk [.bool false, nsl, nsl] 25) :: (some b1, blk (Slk.cells b (.text o l.length)) 96) :: N) (fun w m => hΦ w (m.drop 2)) _ _ l res0 hv hf) rfl rfl ?_; rintro _ B ⟨_, cr, hcr, rfl, rfl⟩; refine Z20 (M' := (some b2, blk [.bool false, nsl, nsl] 25) :: (B ++ N)) (fun w m => m.out1d) ?_
  refine Z28 (Z107 rfl rfl rfl (ItRd.one _ _ hcr) rfl rfl (ItRd.len _ _ hcr)) (Z6 ?_)
  (repeat (first | refine Z4 ?_ | refine Z1 ?_ | refine CW.block ?_ | refine CW.ret ?_ | refine CW.skip ?_ | refine CW.exit ?_ | refine Z9 ?_ | refine Z8 ?_ | refine Z27 ?_ | refine Z15 ?_ | refine Z101 rfl ?_ | refine Z16 ?_))
  refine Z110 (rs := [.cell 2 25]) [.agg cr.toArray] ((some b2, blk cr 25) :: B) rfl ⟨⟨_, _, _, _, rfl, Zh, rfl, rfl, (by rw [ItRd.len _ _ hcr]; rfl), rfl⟩, trivial⟩ rfl ⟨_, _, ItRd.mono (fun w q => ⟨q.1, q.2.tail⟩) _ _ hcr, rfl, rfl⟩ (fun w m => m) _ (.inl rfl)
 ·rename_i o v
  (repeat (first | refine Z4 ?_ | refine Z1 ?_ | refine CW.block ?_ | refine CW.ret ?_ | refine CW.skip ?_ | refine CW.exit ?_ | refine Z9 ?_ | refine Z8 ?_ | refine Z27 ?_ | refine Z15 ?_ | refine Z101 rfl ?_ | refine Z16 ?_))
  refine Z2 (Z0 (Z30 rfl rfl rfl rfl) rfl ?_)
  (first | refine Z0 (Z29 rfl (by (repeat (first | exact List.Mem.head _ | assumption | refine List.Mem.tail _ ?_)); done) (by first | rfl | assumption) rfl rfl (by first | rfl | assumption)) rfl ?_ | refine Z0 (Z21 rfl rfl rfl (by (repeat (first | assumption | refine Mem.Says.cons ?_)); done)) rfl ?_)
  (first | refine Z0 (RV.neqN rfl rfl rfl) rfl ?_ | refine Z0 (RV.neqS rfl rfl rfl) rfl ?_)
  refine Z0 (Z5 rfl) rfl (Z6 ?_)
  (repeat (first | refine Z4 ?_ | refine Z1 ?_ | refine CW.block ?_ | refine CW.ret ?_ | refine CW.skip ?_ | refine CW.exit ?_ | refine Z9 ?_ | refine Z8 ?_ | refine Z27 ?_ | refine Z15 ?_ | refine Z101 rfl ?_ | refine Z16 ?_))
  (first | refine Z113 rfl ?_ | refine Z115 rfl ?_ | refine Z114 rfl (fun h0 => ?_) (fun h0 => ?_) | refine Z111 rfl (fun h0 => ?_) (fun h0 => ?_) | refine CW.cond rfl (fun h0 => ?_) (fun h0 => ?_))
  (repeat (first | refine Z4 ?_ | refine Z1 ?_ | refine CW.block ?_ | refine CW.ret ?_ | refine CW.skip ?_ | refine CW.exit ?_ | refine Z9 ?_ | refine Z8 ?_ | refine Z27 ?_ | refine Z15 ?_ | refine Z101 rfl ?_ | refine Z16 ?_))
  refine Z2 (Z0 (Z30 rfl rfl rfl rfl) rfl ?_)
  (first | refine Z0 (Z29 rfl (by (repeat (first | exact List.Mem.head _ | assumption | refine List.Mem.tail _ ?_)); done) (by first | rfl | assumption) rfl rfl (by first | rfl | assumption)) rfl ?_ | refine Z0 (Z21 rfl rfl rfl (by (repeat (first | assumption | refine Mem.Says.cons ?_)); done)) rfl ?_)
  refine Z0 (RV.nilCheck rfl) rfl ?_
  refine Z0 (RV.loadAs (vs := u64s v.toList) rfl rfl rfl rfl (fun w m j u hj => by rw [Z123]; exact hs w (hΦ w (m.drop 2)) j u hj) ((Z102 _).trans Zv)) rfl ?_
  refine Z12 Tryd.call91 rfl (rlp_Number_does w0 Φ ((some b2, blk [.bool false, nsl, nsl] 25) :: (some b1, blk (Slk.cells b (.big o)) 96) :: N) (fun w m => hΦ w (m.drop 2)) v res0 hf) rfl rfl ?_; rintro _ B ⟨_, cr, hcr, rfl, rfl⟩; refine Z20 (M' := (some b2, blk [.bool false, nsl, nsl] 25) :: (B ++ N)) (fun w m => m.out1d) ?_
  refine Z28 (Z107 rfl rfl rfl (ItRd.one _ _ hcr) rfl rfl (ItRd.len _ _ hcr)) (Z6 ?_)
  (repeat (first | refine Z4 ?_ | refine Z1 ?_ | refine CW.block ?_ | refine CW.ret ?_ | refine CW.skip ?_ | refine CW.exit ?_ | refine Z9 ?_ | refine Z8 ?_ | refine Z27 ?_ | refine Z15 ?_ | refine Z101 rfl ?_ | refine Z16 ?_))
  refine Z110 (rs := [.cell 2 25]) [.agg cr.toArray] ((some b2, blk cr 25) :: B) rfl ⟨⟨_, _, _, _, rfl, Zh, rfl, rfl, (by rw [ItRd.len _ _ hcr]; rfl), rfl⟩, trivial⟩ rfl ⟨_, _, ItRd.mono (fun w q => ⟨q.1, q.2.tail⟩) _ _ hcr, rfl, rfl⟩ (fun w m => m) _ (.inl rfl)
 ·rename_i o x
  (repeat (first | refine Z4 ?_ | refine Z1 ?_ | refine CW.block ?_ | refine CW.ret ?_ | refine CW.skip ?_ | refine CW.exit ?_ | refine Z9 ?_ | refine Z8 ?_ | refine Z27 ?_ | refine Z15 ?_ | refine Z101 rfl ?_ | refine Z16 ?_))
  refine Z2 (Z0 (Z30 rfl rfl rfl rfl) rfl ?_)
  (first | refine Z0 (Z29 rfl (by (repeat (first | exact List.Mem.head _ | assumption | refine List.Mem.tail _ ?_)); done) (by first | rfl | assumption) rfl rfl (by first | rfl | assumption)) rfl ?_ | refine Z0 (Z21 rfl rfl rfl (by (repeat (first | assumption | refine Mem.Says.cons ?_)); done)) rfl ?_)
  (first | refine Z0 (RV.neqN rfl rfl rfl) rfl ?_ | refine Z0 (RV.neqS rfl rfl rfl) rfl ?_)
  refine Z0 (Z5 rfl) rfl (Z6 ?_)
  (repeat (first | refine Z4 ?_ | refine Z1 ?_ | refine CW.block ?_ | refine CW.ret ?_ | refine CW.skip ?_ | refine CW.exit ?_ | refine Z9 ?_ | refine Z8 ?_ | refine Z27 ?_ | refine Z15 ?_ | refine Z101 rfl ?_ | refine Z16 ?_))
  (first | refine Z113 rfl ?_ | refine Z115 rfl ?_ | refine Z114 rfl (fun h0 => ?_) (fun h0 => ?_) | refine Z111 rfl (fun h0 => ?_) (fun h0 => ?_) | refine CW.cond rfl (fun h0 => ?_) (fun h0 => ?_))
  (repeat (first | refine Z4 ?_ | refine Z1 ?_ | refine CW.block ?_ | refine CW.ret ?_ | refine CW.skip ?_ | refine CW.exit ?_ | refine Z9 ?_ | refine Z8 ?_ | refine Z27 ?_ | refine Z15 ?_ | refine Z101 rfl ?_ | refine Z16 ?_))
  refine Z2 (Z0 (Z30 rfl rfl rfl rfl) rfl ?_)
  (first | refine Z0 (Z29 rfl (by (repeat (first | exact List.Mem.head _ | assumption | refine List.Mem.tail _ ?_)); done) (by first | rfl | assumption) rfl rfl (by first | rfl | assumption)) rfl ?_ | refine Z0 (Z21 rfl rfl rfl (by (repeat (first | assumption | refine Mem.Says.cons ?_)); done)) rfl ?_)
  (first | refine Z0 (RV.neqN rfl rfl rfl) rfl ?_ | refine Z0 (RV.neqS rfl rfl rfl) rfl ?_)
  refine Z0 (Z5 rfl) rfl (Z6 ?_)
  (repeat (first | refine Z4 ?_ | refine Z1 ?_ | refine CW.block ?_ | refine CW.ret ?_ | refine CW.skip ?_ | refine CW.exit ?_ | refine Z9 ?_ | refine Z8 ?_ | refine Z27 ?_ | refine Z15 ?_ | refine Z101 rfl ?_ | refine Z16 ?_))
  (first | refine Z113 rfl ?_ | refine Z115 rfl ?_ | refine Z114 rfl (fun h0 => ?_) (fun h0 => ?_) | refine Z111 rfl (fun h0 => ?_) (fun h0 => ?_) | refine CW.cond rfl (fun h0 => ?_) (fun h0 => ?_))
  (repeat (first | refine Z4 ?_ | refine Z1 ?_ | refine CW.block ?_ | refine CW.ret ?_ | refine CW.skip ?_ | refine CW.exit ?_ | refine Z9 ?_ | refine Z8 ?_ | refine Z27 ?_ | refine Z15 ?_ | refine Z101 rfl ?_ | refine Z16 ?_))
  refine Z2 (Z0 (Z30 rfl rfl rfl rfl) rfl ?_)
  (first | refine Z0 (Z29 rfl (by (repeat (first | exact List.Mem.head _ | assumption | refine List.Mem.tail _ ?_)); done) (by first | rfl | assumption) rfl rfl (by first | rfl | assumption)) rfl ?_ | refine Z0 (Z21 rfl rfl rfl (by (repeat (first | assumption | refine Mem.Says.cons ?_)); done)) rfl ?_)
  refine Z0 (RV.nilCheck rfl) rfl (Z0 (Z21 rfl rfl rfl (fun w m => hs w (hΦ w (m.drop 2)))) rfl ?_)
  refine Z12 Tryd.call92 rfl (rlp_Small_does w0 Φ ((some b2, blk [.bool false, nsl, nsl] 25) :: (some b1, blk (Slk.cells b (.word o)) 96) :: N) (fun w m => hΦ w (m.drop 2)) x res0 hf) rfl rfl ?_; rintro _ B ⟨_, cr, hcr, rfl, rfl⟩; refine Z20 (M' := (some b2, blk [.bool false, nsl, nsl] 25) :: (B ++ N)) (fun w m => m.out1d) ?_
  refine Z28 (Z107 rfl rfl rfl (ItRd.one _ _ hcr) rfl rfl (ItRd.len _ _ hcr)) (Z6 ?_)
  (repeat (first | refine Z4 ?_ | refine Z1 ?_ | refine CW.block ?_ | refine CW.ret ?_ | refine CW.skip ?_ | refine CW.exit ?_ | refine Z9 ?_ | refine Z8 ?_ | refine Z27 ?_ | refine Z15 ?_ | refine Z101 rfl ?_ | refine Z16 ?_))
  refine Z110 (rs := [.cell 2 25]) [.agg cr.toArray] ((some b2, blk cr 25) :: B) rfl ⟨⟨_, _, _, _, rfl, Zh, rfl, rfl, (by rw [ItRd.len _ _ hcr]; rfl), rfl⟩, trivial⟩ rfl ⟨_, _, ItRd.mono (fun w q => ⟨q.1, q.2.tail⟩) _ _ hcr, rfl, rfl⟩ (fun w m => m) _ (.inl rfl)
 ·rename_i o l
  obtain ⟨A, c, hc, hv⟩ := hs
  (repeat (first | refine Z4 ?_ | refine Z1 ?_ | refine CW.block ?_ | refine CW.ret ?_ | refine CW.skip ?_ | refine CW.exit ?_ | refine Z9 ?_ | refine Z8 ?_ | refine Z27 ?_ | refine Z15 ?_ | refine Z101 rfl ?_ | refine Z16 ?_))
  refine Z2 (Z0 (Z30 rfl rfl rfl rfl) rfl ?_)
  (first | refine Z0 (Z29 rfl (by (repeat (first | exact List.Mem.head _ | assumption | refine List.Mem.tail _ ?_)); done) (by first | rfl | assumption) rfl rfl (by first | rfl | assumption)) rfl ?_ | refine Z0 (Z21 rfl rfl rfl (by (repeat (first | assumption | refine Mem.Says.cons ?_)); done)) rfl ?_)
  (first | refine Z0 (RV.neqN rfl rfl rfl) rfl ?_ | refine Z0 (RV.neqS rfl rfl rfl) rfl ?_)
  refine Z0 (Z5 rfl) rfl (Z6 ?_)
  (repeat (first | refine Z4 ?_ | refine Z1 ?_ | refine CW.block ?_ | refine CW.ret ?_ | refine CW.skip ?_ | refine CW.exit ?_ | refine Z9 ?_ | refine Z8 ?_ | refine Z27 ?_ | refine Z15 ?_ | refine Z101 rfl ?_ | refine Z16 ?_))
  (first | refine Z113 rfl ?_ | refine Z115 rfl ?_ | refine Z114 rfl (fun h0 => ?_) (fun h0 => ?_) | refine Z111 rfl (fun h0 => ?_) (fun h0 => ?_) | refine CW.cond rfl (fun h0 => ?_) (fun h0 => ?_))
  (repeat (first | refine Z4 ?_ | refine Z1 ?_ | refine CW.block ?_ | refine CW.ret ?_ | refine CW.skip ?_ | refine CW.exit ?_ | refine Z9 ?_ | refine Z8 ?_ | refine Z27 ?_ | refine Z15 ?_ | refine Z101 rfl ?_ | refine Z16 ?_))
  refine Z2 (Z0 (Z30 rfl rfl rfl rfl) rfl ?_)
  (first | refine Z0 (Z29 rfl (by (repeat (first | exact List.Mem.head _ | assumption | refine List.Mem.tail _ ?_)); done) (by first | rfl | assumption) rfl rfl (by first | rfl | assumption)) rfl ?_ | refine Z0 (Z21 rfl rfl rfl (by (repeat (first | assumption | refine Mem.Says.cons ?_)); done)) rfl ?_)
  (first | refine Z0 (RV.neqN rfl rfl rfl) rfl ?_ | refine Z0 (RV.neqS rfl rfl rfl) rfl ?_)
  refine Z0 (Z5 rfl) rfl (Z6 ?_)
  (repeat (first | refine Z4 ?_ | refine Z1 ?_ | refine CW.block ?_ | refine CW.ret ?_ | refine CW.skip ?_ | refine CW.exit ?_ | refine Z9 ?_ | refine Z8 ?_ | refine Z27 ?_ | refine Z15 ?_ | refine Z101 rfl ?_ | refine Z16 ?_))
  (first | refine Z113 rfl ?_ | refine Z115 rfl ?_ | refine Z114 rfl (fun h0 => ?_) (fun h0 => ?_) | refine Z111 rfl (fun h0 => ?_) (fun h0 => ?_) | refine CW.cond rfl (fun h0 => ?_) (fun h0 => ?_))
  (repeat (first | refine Z4 ?_ | refine Z1 ?_ | refine CW.block ?_ | refine CW.ret ?_ | refine CW.skip ?_ | refine CW.exit ?_ | refine Z9 ?_ | refine Z8 ?_ | refine Z27 ?_ | refine Z15 ?_ | refine Z101 rfl ?_ | refine Z16 ?_))
  refine Z2 (Z0 (Z30 rfl rfl rfl rfl) rfl ?_)
  (first | refine Z0 (Z29 rfl (by (repeat (first | exact List.Mem.head _ | assumption | refine List.Mem.tail _ ?_)); done) (by first | rfl | assumption) rfl rfl (by first | rfl | assumption)) rfl ?_ | refine Z0 (Z21 rfl rfl rfl (by (repeat (first | assumption | refine Mem.Says.cons ?_)); done)) rfl ?_)
  (first | refine Z0 (RV.neqN rfl rfl rfl) rfl ?_ | refine Z0 (RV.neqS rfl rfl rfl) rfl ?_)
  refine Z0 (Z5 rfl) rfl (Z6 ?_)
  (repeat (first | refine Z4 ?_ | refine Z1 ?_ | refine CW.block ?_ | refine CW.ret ?_ | refine CW.skip ?_ | refine CW.exit ?_ | refine Z9 ?_ | refine Z8 ?_ | refine Z27 ?_ | refine Z15 ?_ | refine Z101 rfl ?_ | refine Z16 ?_))
  (first | refine Z113 rfl ?_ | refine Z115 rfl ?_ | refine Z114 rfl (fun h0 => ?_) (fun h0 => ?_) | refine Z111 rfl (fun h0 => ?_) (fun h0 => ?_) | refine CW.cond rfl (fun h0 => ?_) (fun h0 => ?_))
  (repeat (first | refine Z4 ?_ | refine Z1 ?_ | refine CW.block ?_ | refine CW.ret ?_ | refine CW.skip ?_ | refine CW.exit ?_ | refine Z9 ?_ | refine Z8 ?_ | refine Z27 ?_ | refine Z15 ?_ | refine Z101 rfl ?_ | refine Z16 ?_))
  refine Z2 (Z0 (Z30 rfl rfl rfl rfl) rfl ?_)
  (first | refine Z0 (Z29 rfl (by (repeat (first | exact List.Mem.head _ | assumption | refine List.Mem.tail _ ?_)); done) (by first | rfl | assumption) rfl rfl (by first | rfl | assumption)) rfl ?_ | refine Z0 (Z21 rfl rfl rfl (by (repeat (first | assumption | refine Mem.Says.cons ?_)); done)) rfl ?_)
  refine Z0 (RV.nilCheck rfl) rfl (Z0 (Z21 rfl rfl rfl (fun w m => hc w (hΦ w (m.drop 2)))) rfl ?_)
  refine Z12 Tryd.call80 rfl (rlp_Text_does w0 Φ ((some b2, blk [.bool false, nsl, nsl] 25) :: (some b1, blk (Slk.cells b (.ext o)) 96) :: N) (fun w m => hΦ w (m.drop 2)) _ _ l res0 hv hf) rfl rfl ?_; rintro _ B ⟨_, cr, hcr, rfl, rfl⟩; refine Z20 (M' := (some b2, blk [.bool false, nsl, nsl] 25) :: (B ++ N)) (fun w m => m.out1d) ?_
  refine Z28 (Z107 rfl rfl rfl (ItRd.one _ _ hcr) rfl rfl (ItRd.len _ _ hcr)) (Z6 ?_)
  (repeat (first | refine Z4 ?_ | refine Z1 ?_ | refine CW.block ?_ | refine CW.ret ?_ | refine CW.skip ?_ | refine CW.exit ?_ | refine Z9 ?_ | refine Z8 ?_ | refine Z27 ?_ | refine Z15 ?_ | refine Z101 rfl ?_ | refine Z16 ?_))
  refine Z110 (rs := [.cell 2 25]) [.agg cr.toArray] ((some b2, blk cr 25) :: B) rfl ⟨⟨_, _, _, _, rfl, Zh, rfl, rfl, (by rw [ItRd.len _ _ hcr]; rfl), rfl⟩, trivial⟩ rfl ⟨_, _, ItRd.mono (fun w q => ⟨q.1, q.2.tail⟩) _ _ hcr, rfl, rfl⟩ (fun w m => m) _ (.inl rfl)
theorem Z150 (w0 : World) (Φ : Ctx) (N : List Ent) (hΦ : ∀ w, Mem w0 w N → Φ w) (cs0_ : List Value) (a0 : Hdr) (res0 : Nat) (ha0 : HdrRd Φ cs0_ a0) (hf : header_Check a0 = some res0) : DoesG Tryd.prog 20 [.agg cs0_.toArray] w0 [] N (fun v G => (res0 ≤ 9223372036854775807) ∧ v = .int .i64 ((res0 : Nat) : Int)) := by
 unfold header_Check at hf
 obtain ⟨A, c, rfl, hv0, ht⟩ := ha0.opnC
 refine DoesG.enter Tryd.func20 rfl Tryd.ntmps20 rfl (M := N) rfl ?_
 (repeat (first | refine Z4 ?_ | refine Z1 ?_ | refine CW.block ?_ | refine CW.ret ?_ | refine CW.skip ?_ | refine CW.exit ?_ | refine Z9 ?_ | refine Z8 ?_ | refine Z27 ?_ | refine Z15 ?_ | refine Z101 rfl ?_ | refine Z16 ?_))
 refine Z2 (OW.boxA rfl rfl (fun b1 => (Z0 (Z5 rfl) rfl (Z6 ?_))))
 (repeat (first | refine Z4 ?_ | refine Z1 ?_ | refine CW.block ?_ | refine CW.ret ?_ | refine CW.skip ?_ | refine CW.exit ?_ | refine Z9 ?_ | refine Z8 ?_ | refine Z27 ?_ | refine Z15 ?_ | refine Z101 rfl ?_ | refine Z16 ?_))
 have hext : (a0.C A c).C[444]? = some (.slice A a0.extra.length c) := Z148 (a0.C A c)
 have htl : (a0.C A c).C[485]? = some (.int .i64 a0.tail) := HdrC.C_tail (a0.C A c)
 have hv : View (fun w => Mem w0 w ((some b1, blk (a0.C A c).C 38) :: N)) A a0.extra.length c 1 (u8s a0.extra) := hv0.mono (fun w q => hΦ w q.tail)
 have he : Held w0 (fun w => Mem w0 w ((some b1, blk (a0.C A c).C 38) :: N)) b1 (a0.C A c).C 38 := fun w q => q.sublist (List.singleton_sublist.2 (List.mem_cons_self ..))
 have hmx := hv.mx
 by_cases h1 : a0.tail < 0
 ·rw [if_pos h1] at hf
  obtain rfl := Zi hf
  (repeat (first | refine Z4 ?_ | refine Z1 ?_ | refine CW.block ?_ | refine CW.ret ?_ | refine CW.skip ?_ | refine CW.exit ?_ | refine Z9 ?_ | refine Z8 ?_ | refine Z27 ?_ | refine Z15 ?_ | refine Z101 rfl ?_ | refine Z16 ?_))
  refine Z2 (Z0 (Z30 rfl rfl rfl rfl) rfl (Z0 (Z29 rfl Zh rfl rfl rfl htl) rfl (Z0 (RV.lss_t rfl rfl h1) rfl (Z0 (Z3 rfl) rfl ?_))))
  (first | (refine Z24 rfl ?_; refine Z0 (Z30 rfl rfl rfl rfl) rfl ?_) | refine Z23 rfl rfl rfl ?_)
  (first | (refine Z24 rfl ?_; (first | refine Z0 (Z29 rfl (by (repeat (first | exact List.Mem.head _ | assumption | refine List.Mem.tail _ ?_)); done) (by first | rfl | assumption) rfl rfl (by first | rfl | assumption)) rfl ?_ | refine Z0 (Z21 rfl rfl rfl (by (repeat (first | assumption | refine Mem.Says.cons ?_)); done)) rfl ?_)) | refine Z23 rfl rfl rfl ?_)
  (first | (refine Z24 rfl ?_; refine Z0 (RV.gtr rfl rfl) rfl ?_) | refine Z23 rfl rfl rfl ?_)
  (first | refine Z0 (Z108 rfl rfl rfl) rfl ?_ | refine Z0 (Z112 rfl rfl rfl) rfl ?_ | refine Z0 (RV.pick rfl rfl rfl) rfl ?_)
  refine Z6 ?_
  (repeat (first | refine Z4 ?_ | refine Z1 ?_ | refine CW.block ?_ | refine CW.ret ?_ | refine CW.skip ?_ | refine CW.exit ?_ | refine Z9 ?_ | refine Z8 ?_ | refine Z27 ?_ | refine Z15 ?_ | refine Z101 rfl ?_ | refine Z16 ?_))
  (first | refine Z113 rfl ?_ | refine Z115 rfl ?_ | refine Z114 rfl (fun h9 => ?_) (fun h9 => ?_) | refine Z111 rfl (fun h9 => ?_) (fun h9 => ?_) | refine CW.cond rfl (fun h9 => ?_) (fun h9 => ?_))
  (repeat (first | refine Z4 ?_ | refine Z1 ?_ | refine CW.block ?_ | refine CW.ret ?_ | refine CW.skip ?_ | refine CW.exit ?_ | refine Z9 ?_ | refine Z8 ?_ | refine Z27 ?_ | refine Z15 ?_ | refine Z101 rfl ?_ | refine Z16 ?_))
  refine Z2 (Z0 (Z5 rfl) rfl (Z6 ?_))
  (repeat (first | refine Z4 ?_ | refine Z1 ?_ | refine CW.block ?_ | refine CW.ret ?_ | refine CW.skip ?_ | refine CW.exit ?_ | refine Z9 ?_ | refine Z8 ?_ | refine Z27 ?_ | refine Z15 ?_ | refine Z101 rfl ?_ | refine Z16 ?_))
  refine Z110 (rs := [.tmp 2]) [.int .i64 191] [] rfl ⟨rfl, trivial⟩ rfl ⟨by omega, rfl⟩ (fun w m => m.tail) _ (.inl rfl)
 rw [if_neg h1] at hf
 by_cases h2 : 4 < a0.tail
 ·rw [if_pos h2] at hf
  obtain rfl := Zi hf
  (repeat (first | refine Z4 ?_ | refine Z1 ?_ | refine CW.block ?_ | refine CW.ret ?_ | refine CW.skip ?_ | refine CW.exit ?_ | refine Z9 ?_ | refine Z8 ?_ | refine Z27 ?_ | refine Z15 ?_ | refine Z101 rfl ?_ | refine Z16 ?_))
  refine Z2 (Z0 (Z30 rfl rfl rfl rfl) rfl (Z0 (Z29 rfl Zh rfl rfl rfl htl) rfl (Z0 (RV.lss_f rfl rfl h1) rfl (Z0 (Z3 rfl) rfl ?_))))
  (first | (refine Z24 rfl ?_; refine Z0 (Z30 rfl rfl rfl rfl) rfl ?_) | refine Z23 rfl rfl rfl ?_)
  (first | (refine Z24 rfl ?_; refine Z0 (Z29 rfl Zh rfl rfl rfl htl) rfl ?_) | refine Z23 rfl rfl rfl ?_)
  (first | (refine Z24 rfl ?_; refine Z0 (RV.gtr_t rfl rfl h2) rfl ?_) | refine Z23 rfl rfl rfl ?_)
  (first | refine Z0 (Z108 rfl rfl rfl) rfl ?_ | refine Z0 (Z112 rfl rfl rfl) rfl ?_ | refine Z0 (RV.pick rfl rfl rfl) rfl ?_)
  refine Z6 ?_
  (repeat (first | refine Z4 ?_ | refine Z1 ?_ | refine CW.block ?_ | refine CW.ret ?_ | refine CW.skip ?_ | refine CW.exit ?_ | refine Z9 ?_ | refine Z8 ?_ | refine Z27 ?_ | refine Z15 ?_ | refine Z101 rfl ?_ | refine Z16 ?_))
  (first | refine Z113 rfl ?_ | refine Z115 rfl ?_ | refine Z114 rfl (fun h9 => ?_) (fun h9 => ?_) | refine Z111 rfl (fun h9 => ?_) (fun h9 => ?_) | refine CW.cond rfl (fun h9 => ?_) (fun h9 => ?_))
  (repeat (first | refine Z4 ?_ | refine Z1 ?_ | refine CW.block ?_ | refine CW.ret ?_ | refine CW.skip ?_ | refine CW.exit ?_ | refine Z9 ?_ | refine Z8 ?_ | refine Z27 ?_ | refine Z15 ?_ | refine Z101 rfl ?_ | refine Z16 ?_))
  refine Z2 (Z0 (Z5 rfl) rfl (Z6 ?_))
  (repeat (first | refine Z4 ?_ | refine Z1 ?_ | refine CW.block ?_ | refine CW.ret ?_ | refine CW.skip ?_ | refine CW.exit ?_ | refine Z9 ?_ | refine Z8 ?_ | refine Z27 ?_ | refine Z15 ?_ | refine Z101 rfl ?_ | refine Z16 ?_))
  refine Z110 (rs := [.tmp 2]) [.int .i64 191] [] rfl ⟨rfl, trivial⟩ rfl ⟨by omega, rfl⟩ (fun w m => m.tail) _ (.inl rfl)
 rw [if_neg h2] at hf
 obtain ⟨n, hn, hf⟩ := Option.bind_eq_some_iff.1 hf
 (repeat (first | refine Z4 ?_ | refine Z1 ?_ | refine CW.block ?_ | refine CW.ret ?_ | refine CW.skip ?_ | refine CW.exit ?_ | refine Z9 ?_ | refine Z8 ?_ | refine Z27 ?_ | refine Z15 ?_ | refine Z101 rfl ?_ | refine Z16 ?_))
 refine Z2 (Z0 (Z30 rfl rfl rfl rfl) rfl (Z0 (Z29 rfl Zh rfl rfl rfl htl) rfl (Z0 (RV.lss_f rfl rfl h1) rfl (Z0 (Z3 rfl) rfl ?_))))
 (first | (refine Z24 rfl ?_; refine Z0 (Z30 rfl rfl rfl rfl) rfl ?_) | refine Z23 rfl rfl rfl ?_)
 (first | (refine Z24 rfl ?_; refine Z0 (Z29 rfl Zh rfl rfl rfl htl) rfl ?_) | refine Z23 rfl rfl rfl ?_)
 (first | (refine Z24 rfl ?_; refine Z0 (RV.gtr_f rfl rfl h2) rfl ?_) | refine Z23 rfl rfl rfl ?_)
 (first | refine Z0 (Z108 rfl rfl rfl) rfl ?_ | refine Z0 (Z112 rfl rfl rfl) rfl ?_ | refine Z0 (RV.pick rfl rfl rfl) rfl ?_)
 refine Z6 ?_
 (repeat (first | refine Z4 ?_ | refine Z1 ?_ | refine CW.block ?_ | refine CW.ret ?_ | refine CW.skip ?_ | refine CW.exit ?_ | refine Z9 ?_ | refine Z8 ?_ | refine Z27 ?_ | refine Z15 ?_ | refine Z101 rfl ?_ | refine Z16 ?_))
 (first | refine Z113 rfl ?_ | refine Z115 rfl ?_ | refine Z114 rfl (fun h9 => ?_) (fun h9 => ?_) | refine Z111 rfl (fun h9 => ?_) (fun h9 => ?_) | refine CW.cond rfl (fun h9 => ?_) (fun h9 => ?_))
 (repeat (first | refine Z4 ?_ | refine Z1 ?_ | refine CW.block ?_ | refine CW.ret ?_ | refine CW.skip ?_ | refine CW.exit ?_ | refine Z9 ?_ | refine Z8 ?_ | refine Z27 ?_ | refine Z15 ?_ | refine Z101 rfl ?_ | refine Z16 ?_))
 refine Z2 ?_
 refine Z12 Tryd.call44 rfl (header_slots_does w0 ((some b1, blk (a0.C A c).C 38) :: N) b1) rfl rfl ?_; rintro _ B0 ⟨_, rfl, rfl⟩; refine Z20 (M' := (some b1, blk (a0.C A c).C 38) :: N) (fun w m => m.appR) ?_
 refine Z0 (Z3 rfl) rfl (Z6 ?_)
 (repeat (first | refine Z4 ?_ | refine Z1 ?_ | refine CW.block ?_ | refine CW.ret ?_ | refine CW.skip ?_ | refine CW.exit ?_ | refine Z9 ?_ | refine Z8 ?_ | refine Z27 ?_ | refine Z15 ?_ | refine Z101 rfl ?_ | refine Z16 ?_))
 refine Z139 (fun k L' M' => ∃ (i : Nat), k = 21 - i ∧ i ≤ 21 ∧ (∀ j f, n ≤ j → j < i → a0.fds[j]? = some f → f.isZero = true) ∧ L' = [(1, ptr (some b1) 0), (13, .agg (slotC b1).toArray), (14, .int .i64 (i : Int))] ∧ M' = (some b1, blk (a0.C A c).C 38) :: N) (k0 := 21) ⟨0, rfl, by omega, (fun j f _ h => absurd h (by omega)), rfl, rfl⟩ ⟨rfl, rfl, rfl, trivial⟩ (fun w m => m) ?_
 rintro k L' M' ⟨i, rfl, hi, hz, rfl, rfl⟩
 (repeat (first | refine Z4 ?_ | refine Z1 ?_ | refine CW.block ?_ | refine CW.ret ?_ | refine CW.skip ?_ | refine CW.exit ?_ | refine Z9 ?_ | refine Z8 ?_ | refine Z27 ?_ | refine Z15 ?_ | refine Z101 rfl ?_ | refine Z16 ?_))
 refine Z2 (Z0 (RV.lss rfl rfl) rfl (Z6 ?_))
 (repeat (first | refine Z4 ?_ | refine Z1 ?_ | refine CW.block ?_ | refine CW.ret ?_ | refine CW.skip ?_ | refine CW.exit ?_ | refine Z9 ?_ | refine Z8 ?_ | refine Z27 ?_ | refine Z15 ?_ | refine Z101 rfl ?_ | refine Z16 ?_))
 (first | refine Z113 rfl ?_ | refine Z115 rfl ?_ | refine Z114 rfl (fun hlt => ?_) (fun hlt => ?_) | refine Z111 rfl (fun hlt => ?_) (fun hlt => ?_) | refine CW.cond rfl (fun hlt => ?_) (fun hlt => ?_))
 ·have h3 : i < 21 := by omega
  obtain ⟨s, hs⟩ : ∃ s, slotL[i]? = some s := ⟨_, List.getElem?_eq_getElem (show i < slotL.length from h3)⟩
  obtain ⟨f, hfd⟩ : ∃ f, a0.fds[i]? = some f := ⟨_, List.getElem?_eq_getElem (show i < a0.fds.length from h3)⟩
  have hsl := a0.slotsAt he hv hs hfd
  (repeat (first | refine Z4 ?_ | refine Z1 ?_ | refine CW.block ?_ | refine CW.ret ?_ | refine CW.skip ?_ | refine CW.exit ?_ | refine Z9 ?_ | refine Z8 ?_ | refine Z27 ?_ | refine Z15 ?_ | refine Z101 rfl ?_ | refine Z16 ?_))
  refine Z2 (Z0 (Z3 rfl) rfl (Z0 (RV.indexVs i rfl rfl rfl rfl rfl rfl rfl (by omega) (slotC_part b1 i hs)) rfl (OW.alloc rfl rfl rfl (fun b4 => (Z0 (Z5 rfl) rfl (Z28 (Z107 rfl rfl rfl (Slk.cells_one b1 s) rfl rfl (Z135 b1 s)) (Z6 ?_)))))))
  (repeat (first | refine Z4 ?_ | refine Z1 ?_ | refine CW.block ?_ | refine CW.ret ?_ | refine CW.skip ?_ | refine CW.exit ?_ | refine Z9 ?_ | refine Z8 ?_ | refine Z27 ?_ | refine Z15 ?_ | refine Z101 rfl ?_ | refine Z16 ?_))
  by_cases h4 : n ≤ i
  ·cases hzf : f.isZero with
   | true =>
    (repeat (first | refine Z4 ?_ | refine Z1 ?_ | refine CW.block ?_ | refine CW.ret ?_ | refine CW.skip ?_ | refine CW.exit ?_ | refine Z9 ?_ | refine Z8 ?_ | refine Z27 ?_ | refine Z15 ?_ | refine Z101 rfl ?_ | refine Z16 ?_))
    refine Z2 (Z0 (Z3 rfl) rfl (Z0 (Z30 rfl rfl rfl rfl) rfl (Z0 (Z29 rfl (List.Mem.tail _ Zh) rfl rfl rfl htl) rfl ?_)))
    refine Z12 Tryd.call53 rfl (Z138 w0 (fun _ => True) ((some b4, blk (s.cells b1) 96) :: (some b1, blk (a0.C A c).C 38) :: N) (fun _ _ => trivial) a0.tail n ht hn) rfl rfl ?_; rintro _ G1 ⟨hnb, rfl⟩; refine Z20 (M' := (some b4, blk (s.cells b1) 96) :: (some b1, blk (a0.C A c).C 38) :: N) (fun w m => m.appR) ?_
    refine Z0 (RV.geq_t rfl rfl (by omega)) rfl (Z0 (Z3 rfl) rfl ?_)
    (first | (refine Z24 rfl ?_; refine Z0 (Z22 rfl Zh rfl rfl rfl rfl (Z135 b1 s)) rfl ?_) | refine Z23 rfl rfl rfl ?_)
    (first | (refine Z24 rfl ?_; refine Z12 Tryd.call54 rfl (hslot_zero_does w0 _ ((some b4, blk (s.cells b1) 96) :: (some b1, blk (a0.C A c).C 38) :: N) (fun w m => m.tail) b1 s f hsl) rfl rfl ?_; rintro _ B1 ⟨_, rfl, rfl⟩; refine Z20 (M' := (some b1, blk (a0.C A c).C 38) :: N) (fun w m => (m.appR).tail) ?_; rw [hzf]) | refine Z23 rfl rfl rfl ?_)
    (first | (refine Z24 rfl ?_; refine Z0 (RV.not rfl) rfl ?_) | refine Z23 rfl rfl rfl ?_)
    (first | refine Z0 (Z108 rfl rfl rfl) rfl ?_ | refine Z0 (Z112 rfl rfl rfl) rfl ?_ | refine Z0 (RV.pick rfl rfl rfl) rfl ?_)
    refine Z6 ?_
    (repeat (first | refine Z4 ?_ | refine Z1 ?_ | refine CW.block ?_ | refine CW.ret ?_ | refine CW.skip ?_ | refine CW.exit ?_ | refine Z9 ?_ | refine Z8 ?_ | refine Z27 ?_ | refine Z15 ?_ | refine Z101 rfl ?_ | refine Z16 ?_))
    (first | refine Z113 rfl ?_ | refine Z115 rfl ?_ | refine Z114 rfl (fun h9 => ?_) (fun h9 => ?_) | refine Z111 rfl (fun h9 => ?_) (fun h9 => ?_) | refine CW.cond rfl (fun h9 => ?_) (fun h9 => ?_))
    (repeat (first | refine Z4 ?_ | refine Z1 ?_ | refine CW.block ?_ | refine CW.ret ?_ | refine CW.skip ?_ | refine CW.exit ?_ | refine Z9 ?_ | refine Z8 ?_ | refine Z27 ?_ | refine Z15 ?_ | refine Z101 rfl ?_ | refine Z16 ?_))
    refine Z2 (Z0 (RV.add rfl rfl (by omega)) rfl (Z0 (Z3 rfl) rfl (Z6 ?_)))
    (repeat (first | refine Z4 ?_ | refine Z1 ?_ | refine CW.block ?_ | refine CW.ret ?_ | refine CW.skip ?_ | refine CW.exit ?_ | refine Z9 ?_ | refine Z8 ?_ | refine Z27 ?_ | refine Z15 ?_ | refine Z101 rfl ?_ | refine Z16 ?_))
    refine Z132 (k' := 21 - (i + 1)) (by omega) ⟨i + 1, rfl, by omega, (fun j g h5 h6 h7 => by
     by_cases e : j = i
     ·subst e; rw [hfd] at h7; obtain rfl := Zi h7; exact hzf
     ·exact hz j g h5 (by omega) h7), rfl, rfl⟩ ⟨rfl, rfl, rfl, trivial⟩ (fun w m => m)
   | false =>
    rw [laterZero_not h4 hfd hzf, if_neg (by decide)] at hf
    obtain rfl := Zi hf
    (repeat (first | refine Z4 ?_ | refine Z1 ?_ | refine CW.block ?_ | refine CW.ret ?_ | refine CW.skip ?_ | refine CW.exit ?_ | refine Z9 ?_ | refine Z8 ?_ | refine Z27 ?_ | refine Z15 ?_ | refine Z101 rfl ?_ | refine Z16 ?_))
    refine Z2 (Z0 (Z3 rfl) rfl (Z0 (Z30 rfl rfl rfl rfl) rfl (Z0 (Z29 rfl (List.Mem.tail _ Zh) rfl rfl rfl htl) rfl ?_)))
    refine Z12 Tryd.call53 rfl (Z138 w0 (fun _ => True) ((some b4, blk (s.cells b1) 96) :: (some b1, blk (a0.C A c).C 38) :: N) (fun _ _ => trivial) a0.tail n ht hn) rfl rfl ?_; rintro _ G1 ⟨hnb, rfl⟩; refine Z20 (M' := (some b4, blk (s.cells b1) 96) :: (some b1, blk (a0.C A c).C 38) :: N) (fun w m => m.appR) ?_
    refine Z0 (RV.geq_t rfl rfl (by omega)) rfl (Z0 (Z3 rfl) rfl ?_)
    (first | (refine Z24 rfl ?_; refine Z0 (Z22 rfl Zh rfl rfl rfl rfl (Z135 b1 s)) rfl ?_) | refine Z23 rfl rfl rfl ?_)
    (first | (refine Z24 rfl ?_; refine Z12 Tryd.call54 rfl (hslot_zero_does w0 _ ((some b4, blk (s.cells b1) 96) :: (some b1, blk (a0.C A c).C 38) :: N) (fun w m => m.tail) b1 s f hsl) rfl rfl ?_; rintro _ B1 ⟨_, rfl, rfl⟩; refine Z20 (M' := (some b1, blk (a0.C A c).C 38) :: N) (fun w m => (m.appR).tail) ?_; rw [hzf]) | refine Z23 rfl rfl rfl ?_)
    (first | (refine Z24 rfl ?_; refine Z0 (RV.not rfl) rfl ?_) | refine Z23 rfl rfl rfl ?_)
    (first | refine Z0 (Z108 rfl rfl rfl) rfl ?_ | refine Z0 (Z112 rfl rfl rfl) rfl ?_ | refine Z0 (RV.pick rfl rfl rfl) rfl ?_)
    refine Z6 ?_
    (repeat (first | refine Z4 ?_ | refine Z1 ?_ | refine CW.block ?_ | refine CW.ret ?_ | refine CW.skip ?_ | refine CW.exit ?_ | refine Z9 ?_ | refine Z8 ?_ | refine Z27 ?_ | refine Z15 ?_ | refine Z101 rfl ?_ | refine Z16 ?_))
    (first | refine Z113 rfl ?_ | refine Z115 rfl ?_ | refine Z114 rfl (fun h9 => ?_) (fun h9 => ?_) | refine Z111 rfl (fun h9 => ?_) (fun h9 => ?_) | refine CW.cond rfl (fun h9 => ?_) (fun h9 => ?_))
    (repeat (first | refine Z4 ?_ | refine Z1 ?_ | refine CW.block ?_ | refine CW.ret ?_ | refine CW.skip ?_ | refine CW.exit ?_ | refine Z9 ?_ | refine Z8 ?_ | refine Z27 ?_ | refine Z15 ?_ | refine Z101 rfl ?_ | refine Z16 ?_))
    refine Z2 (Z0 (Z5 rfl) rfl (Z6 ?_))
    (repeat (first | refine Z4 ?_ | refine Z1 ?_ | refine CW.block ?_ | refine CW.ret ?_ | refine CW.skip ?_ | refine CW.exit ?_ | refine Z9 ?_ | refine Z8 ?_ | refine Z27 ?_ | refine Z15 ?_ | refine Z101 rfl ?_ | refine Z16 ?_))
    refine Z110 (rs := [.tmp 2]) [.int .i64 191] [] rfl ⟨rfl, trivial⟩ rfl ⟨by omega, rfl⟩ (fun w m => m.tail) _ (.inl rfl)
  ·(repeat (first | refine Z4 ?_ | refine Z1 ?_ | refine CW.block ?_ | refine CW.ret ?_ | refine CW.skip ?_ | refine CW.exit ?_ | refine Z9 ?_ | refine Z8 ?_ | refine Z27 ?_ | refine Z15 ?_ | refine Z101 rfl ?_ | refine Z16 ?_))
   refine Z2 (Z0 (Z3 rfl) rfl (Z0 (Z30 rfl rfl rfl rfl) rfl (Z0 (Z29 rfl (List.Mem.tail _ Zh) rfl rfl rfl htl) rfl ?_)))
   refine Z12 Tryd.call53 rfl (Z138 w0 (fun _ => True) ((some b4, blk (s.cells b1) 96) :: (some b1, blk (a0.C A c).C 38) :: N) (fun _ _ => trivial) a0.tail n ht hn) rfl rfl ?_; rintro _ G1 ⟨hnb, rfl⟩; refine Z20 (M' := (some b1, blk (a0.C A c).C 38) :: N) (fun w m => (m.appR).tail) ?_
   refine Z0 (RV.geq_f rfl rfl (by omega)) rfl (Z0 (Z3 rfl) rfl ?_)
   (first | (refine Z24 rfl ?_; refine Z23 rfl rfl rfl ?_) | refine Z23 rfl rfl rfl ?_)
   (first | (refine Z24 rfl ?_; refine Z23 rfl rfl rfl ?_) | refine Z23 rfl rfl rfl ?_)
   (first | (refine Z24 rfl ?_; refine Z0 (RV.not rfl) rfl ?_) | refine Z23 rfl rfl rfl ?_)
   (first | refine Z0 (Z108 rfl rfl rfl) rfl ?_ | refine Z0 (Z112 rfl rfl rfl) rfl ?_ | refine Z0 (RV.pick rfl rfl rfl) rfl ?_)
   refine Z6 ?_
   (repeat (first | refine Z4 ?_ | refine Z1 ?_ | refine CW.block ?_ | refine CW.ret ?_ | refine CW.skip ?_ | refine CW.exit ?_ | refine Z9 ?_ | refine Z8 ?_ | refine Z27 ?_ | refine Z15 ?_ | refine Z101 rfl ?_ | refine Z16 ?_))
   (first | refine Z113 rfl ?_ | refine Z115 rfl ?_ | refine Z114 rfl (fun h9 => ?_) (fun h9 => ?_) | refine Z111 rfl (fun h9 => ?_) (fun h9 => ?_) | refine CW.cond rfl (fun h9 => ?_) (fun h9 => ?_))
   (repeat (first | refine Z4 ?_ | refine Z1 ?_ | refine CW.block ?_ | refine CW.ret ?_ | refine CW.skip ?_ | refine CW.exit ?_ | refine Z9 ?_ | refine Z8 ?_ | refine Z27 ?_ | refine Z15 ?_ | refine Z101 rfl ?_ | refine Z16 ?_))
   refine Z2 (Z0 (RV.add rfl rfl (by omega)) rfl (Z0 (Z3 rfl) rfl (Z6 ?_)))
   (repeat (first | refine Z4 ?_ | refine Z1 ?_ | refine CW.block ?_ | refine CW.ret ?_ | refine CW.skip ?_ | refine CW.exit ?_ | refine Z9 ?_ | refine Z8 ?_ | refine Z27 ?_ | refine Z15 ?_ | refine Z101 rfl ?_ | refine Z16 ?_))
   refine Z132 (k' := 21 - (i + 1)) (by omega) ⟨i + 1, rfl, by omega, (fun j g h5 h6 h7 => hz j g h5 (by omega) h7), rfl, rfl⟩ ⟨rfl, rfl, rfl, trivial⟩ (fun w m => m)
 ·rw [laterZero_all (fun j f h5 h6 => hz j f h5 (by have := (List.getElem?_eq_some_iff.1 h6).1; change j < 21 at this; omega) h6), if_pos rfl] at hf
  by_cases h5 : 32 < a0.extra.length
  ·rw [if_pos h5] at hf
   obtain rfl := Zi hf
   (repeat (first | refine Z4 ?_ | refine Z1 ?_ | refine CW.block ?_ | refine CW.ret ?_ | refine CW.skip ?_ | refine CW.exit ?_ | refine Z9 ?_ | refine Z8 ?_ | refine Z27 ?_ | refine Z15 ?_ | refine Z101 rfl ?_ | refine Z16 ?_))
   refine Z2 (Z0 (Z30 rfl rfl rfl rfl) rfl (Z0 (Z29 rfl Zh rfl rfl rfl hext) rfl (Z0 (RV.len rfl rfl) rfl (Z0 (RV.gtr_t rfl rfl (by omega)) rfl (Z6 ?_)))))
   (repeat (first | refine Z4 ?_ | refine Z1 ?_ | refine CW.block ?_ | refine CW.ret ?_ | refine CW.skip ?_ | refine CW.exit ?_ | refine Z9 ?_ | refine Z8 ?_ | refine Z27 ?_ | refine Z15 ?_ | refine Z101 rfl ?_ | refine Z16 ?_))
   (first | refine Z113 rfl ?_ | refine Z115 rfl ?_ | refine Z114 rfl (fun h9 => ?_) (fun h9 => ?_) | refine Z111 rfl (fun h9 => ?_) (fun h9 => ?_) | refine CW.cond rfl (fun h9 => ?_) (fun h9 => ?_))
   (repeat (first | refine Z4 ?_ | refine Z1 ?_ | refine CW.block ?_ | refine CW.ret ?_ | refine CW.skip ?_ | refine CW.exit ?_ | refine Z9 ?_ | refine Z8 ?_ | refine Z27 ?_ | refine Z15 ?_ | refine Z101 rfl ?_ | refine Z16 ?_))
   refine Z2 (Z0 (Z5 rfl) rfl (Z6 ?_))
   (repeat (first | refine Z4 ?_ | refine Z1 ?_ | refine CW.block ?_ | refine CW.ret ?_ | refine CW.skip ?_ | refine CW.exit ?_ | refine Z9 ?_ | refine Z8 ?_ | refine Z27 ?_ | refine Z15 ?_ | refine Z101 rfl ?_ | refine Z16 ?_))
   refine Z110 (rs := [.tmp 2]) [.int .i64 192] [] rfl ⟨rfl, trivial⟩ rfl ⟨by omega, rfl⟩ (fun w m => m.tail) _ (.inl rfl)
  ·rw [if_neg h5] at hf
   obtain rfl := Zi hf
   (repeat (first | refine Z4 ?_ | refine Z1 ?_ | refine CW.block ?_ | refine CW.ret ?_ | refine CW.skip ?_ | refine CW.exit ?_ | refine Z9 ?_ | refine Z8 ?_ | refine Z27 ?_ | refine Z15 ?_ | refine Z101 rfl ?_ | refine Z16 ?_))
   refine Z2 (Z0 (Z30 rfl rfl rfl rfl) rfl (Z0 (Z29 rfl Zh rfl rfl rfl hext) rfl (Z0 (RV.len rfl rfl) rfl (Z0 (RV.gtr_f rfl rfl (by omega)) rfl (Z6 ?_)))))
   (repeat (first | refine Z4 ?_ | refine Z1 ?_ | refine CW.block ?_ | refine CW.ret ?_ | refine CW.skip ?_ | refine CW.exit ?_ | refine Z9 ?_ | refine Z8 ?_ | refine Z27 ?_ | refine Z15 ?_ | refine Z101 rfl ?_ | refine Z16 ?_))
   (first | refine Z113 rfl ?_ | refine Z115 rfl ?_ | refine Z114 rfl (fun h9 => ?_) (fun h9 => ?_) | refine Z111 rfl (fun h9 => ?_) (fun h9 => ?_) | refine CW.cond rfl (fun h9 => ?_) (fun h9 => ?_))
   (repeat (first | refine Z4 ?_ | refine Z1 ?_ | refine CW.block ?_ | refine CW.ret ?_ | refine CW.skip ?_ | refine CW.exit ?_ | refine Z9 ?_ | refine Z8 ?_ | refine Z27 ?_ | refine Z15 ?_ | refine Z101 rfl ?_ | refine Z16 ?_))
   refine Z2 (Z0 (Z5 rfl) rfl (Z6 ?_))
   (repeat (first | refine Z4 ?_ | refine Z1 ?_ | refine CW.block ?_ | refine CW.ret ?_ | refine CW.skip ?_ | refine CW.exit ?_ | refine Z9 ?_ | refine Z8 ?_ | refine Z27 ?_ | refine Z15 ?_ | refine Z101 rfl ?_ | refine Z16 ?_))
   refine Z110 (rs := [.tmp 2]) [.int .i64 0] [] rfl ⟨rfl, trivial⟩ rfl ⟨by omega, rfl⟩ (fun w m => m.tail) _ (.inl rfl)
theorem header_Item_does (w0 : World) (Φ : Ctx) (N : List Ent) (hΦ : ∀ w, Mem w0 w N → Φ w) (cs0_ : List Value) (a0 : Hdr) (res0 : It) (res1 : Nat) (ha0 : HdrRd Φ cs0_ a0) (hf : header_Item a0 = some (res0, res1)) : DoesG Tryd.prog 22 [.agg cs0_.toArray] w0 [] N (fun v G => ∃ B : List Ent, ∃ cr0 : List Value, (ItRd (More w0 Φ B) cr0 res0) ∧ (res1 ≤ 9223372036854775807) ∧ v = .tuple #[.agg cr0.toArray, .int .i64 ((res1 : Nat) : Int)] ∧ G = B) := by
 unfold header_Item at hf
 obtain ⟨e, he, hf⟩ := Option.bind_eq_some_iff.1 hf
 have hlen := ha0.len
 refine DoesG.enter Tryd.func22 rfl Tryd.ntmps22 rfl (M := N) rfl ?_
 (repeat (first | refine Z4 ?_ | refine Z1 ?_ | refine CW.block ?_ | refine CW.ret ?_ | refine CW.skip ?_ | refine CW.exit ?_ | refine Z9 ?_ | refine Z8 ?_ | refine Z27 ?_ | refine Z15 ?_ | refine Z101 rfl ?_ | refine Z16 ?_))
 refine Z2 (OW.boxA rfl rfl (fun b1 => (OW.alloc rfl rfl rfl (fun b2 => (Z0 (Z5 rfl) rfl (Z6 ?_))))))
 (repeat (first | refine Z4 ?_ | refine Z1 ?_ | refine CW.block ?_ | refine CW.ret ?_ | refine CW.skip ?_ | refine CW.exit ?_ | refine Z9 ?_ | refine Z8 ?_ | refine Z27 ?_ | refine Z15 ?_ | refine Z101 rfl ?_ | refine Z16 ?_))
 refine Z2 (Z0 (Z22 rfl (List.Mem.tail _ Zh) rfl rfl rfl rfl hlen) rfl ?_)
 refine Z12 Tryd.call20 rfl (Z150 w0 Φ ((some b2, blk [.bool false, nsl, nsl] 25) :: (some b1, blk cs0_ 38) :: N) (fun w m => hΦ w (m.drop 2)) cs0_ a0 e ha0 he) rfl rfl ?_; rintro _ G1 ⟨heb, rfl⟩; refine Z20 (M' := (some b2, blk [.bool false, nsl, nsl] 25) :: (some b1, blk cs0_ 38) :: N) (fun w m => m.appR) ?_
 refine Z0 (Z5 rfl) rfl (Z6 ?_)
 (repeat (first | refine Z4 ?_ | refine Z1 ?_ | refine CW.block ?_ | refine CW.ret ?_ | refine CW.skip ?_ | refine CW.exit ?_ | refine Z9 ?_ | refine Z8 ?_ | refine Z27 ?_ | refine Z15 ?_ | refine Z101 rfl ?_ | refine Z16 ?_))
 by_cases h1 : e = 0
 case neg =>
  rw [if_neg h1] at hf
  obtain ⟨rfl, rfl⟩ := Prod.mk.inj (Zi hf)
  (repeat (first | refine Z4 ?_ | refine Z1 ?_ | refine CW.block ?_ | refine CW.ret ?_ | refine CW.skip ?_ | refine CW.exit ?_ | refine Z9 ?_ | refine Z8 ?_ | refine Z27 ?_ | refine Z15 ?_ | refine Z101 rfl ?_ | refine Z16 ?_))
  refine Z2 (Z0 (Z3 rfl) rfl (Z0 (RV.neq_t rfl rfl (by omega)) rfl (Z6 ?_)))
  (repeat (first | refine Z4 ?_ | refine Z1 ?_ | refine CW.block ?_ | refine CW.ret ?_ | refine CW.skip ?_ | refine CW.exit ?_ | refine Z9 ?_ | refine Z8 ?_ | refine Z27 ?_ | refine Z15 ?_ | refine Z101 rfl ?_ | refine Z16 ?_))
  (first | refine Z113 rfl ?_ | refine Z115 rfl ?_ | refine Z114 rfl (fun h9 => ?_) (fun h9 => ?_) | refine Z111 rfl (fun h9 => ?_) (fun h9 => ?_) | refine CW.cond rfl (fun h9 => ?_) (fun h9 => ?_))
  (repeat (first | refine Z4 ?_ | refine Z1 ?_ | refine CW.block ?_ | refine CW.ret ?_ | refine CW.skip ?_ | refine CW.exit ?_ | refine Z9 ?_ | refine Z8 ?_ | refine Z27 ?_ | refine Z15 ?_ | refine Z101 rfl ?_ | refine Z16 ?_))
  refine Z2 (Z0 (Z117 (l := [.bool false, nsl, nsl]) (cs := [.bool false, nsl, nsl]) [] rfl rfl rfl rfl rfl rfl rfl) rfl (Z0 (Z3 rfl) rfl ?_))
  refine Z28 (Z107 rfl rfl rfl (by intro u hu; simp at hu; rcases hu with rfl | rfl | rfl <;> rfl) rfl rfl rfl) ?_
  refine Z0 (Z5 rfl) rfl (Z6 ?_)
  (repeat (first | refine Z4 ?_ | refine Z1 ?_ | refine CW.block ?_ | refine CW.ret ?_ | refine CW.skip ?_ | refine CW.exit ?_ | refine Z9 ?_ | refine Z8 ?_ | refine Z27 ?_ | refine Z15 ?_ | refine Z101 rfl ?_ | refine Z16 ?_))
  refine Z110 (rs := [.cell 2 25, .tmp 3]) [.agg #[.bool false, nsl, nsl], .int .i64 (e : Int)] ((some b2, blk [.bool false, nsl, nsl] 25) :: []) rfl ?_ rfl ?_ ?_ _ (.inl rfl)
  ·exact ⟨⟨_, _, _, _, rfl, Zh, rfl, rfl, rfl, rfl⟩, rfl, trivial⟩
  ·exact ⟨_, [.bool false, nsl, nsl], ItRd.mk (d := []) (its := []) View.nil View.nil Reps.nil, heb, rfl, rfl⟩
  ·exact fun w m => m.pick [0] 2 rfl rfl
 subst h1
 rw [if_pos rfl] at hf
 obtain ⟨n, hn, hf⟩ := Option.bind_eq_some_iff.1 hf
 obtain ⟨l, hl, hf⟩ := Option.bind_eq_some_iff.1 hf
 obtain ⟨x0, hx0, hf⟩ := Option.bind_eq_some_iff.1 hf
 obtain ⟨rfl, rfl⟩ := Prod.mk.inj (Zi hf)
 (repeat (first | refine Z4 ?_ | refine Z1 ?_ | refine CW.block ?_ | refine CW.ret ?_ | refine CW.skip ?_ | refine CW.exit ?_ | refine Z9 ?_ | refine Z8 ?_ | refine Z27 ?_ | refine Z15 ?_ | refine Z101 rfl ?_ | refine Z16 ?_))
 refine Z2 (Z0 (Z3 rfl) rfl (Z0 (RV.neq_f rfl rfl (by omega)) rfl (Z6 ?_)))
 (repeat (first | refine Z4 ?_ | refine Z1 ?_ | refine CW.block ?_ | refine CW.ret ?_ | refine CW.skip ?_ | refine CW.exit ?_ | refine Z9 ?_ | refine Z8 ?_ | refine Z27 ?_ | refine Z15 ?_ | refine Z101 rfl ?_ | refine Z16 ?_))
 (first | refine Z113 rfl ?_ | refine Z115 rfl ?_ | refine Z114 rfl (fun h9 => ?_) (fun h9 => ?_) | refine Z111 rfl (fun h9 => ?_) (fun h9 => ?_) | refine CW.cond rfl (fun h9 => ?_) (fun h9 => ?_))
 obtain ⟨A, c, rfl, hv0, ht⟩ := ha0.opnC
 have htl : (a0.C A c).C[485]? = some (.int .i64 a0.tail) := HdrC.C_tail (a0.C A c)
 have hv : View (More w0 Φ [(some b1, blk (a0.C A c).C 38)]) A a0.extra.length c 1 (u8s a0.extra) := hv0.mono (fun w q => q.1)
 have hh : Held w0 (More w0 Φ [(some b1, blk (a0.C A c).C 38)]) b1 (a0.C A c).C 38 := fun w q => q.2
 (repeat (first | refine Z4 ?_ | refine Z1 ?_ | refine CW.block ?_ | refine CW.ret ?_ | refine CW.skip ?_ | refine CW.exit ?_ | refine Z9 ?_ | refine Z8 ?_ | refine Z27 ?_ | refine Z15 ?_ | refine Z101 rfl ?_ | refine Z16 ?_))
 refine Z2 (Z0 (Z5 rfl) rfl (Z6 ?_))
 (repeat (first | refine Z4 ?_ | refine Z1 ?_ | refine CW.block ?_ | refine CW.ret ?_ | refine CW.skip ?_ | refine CW.exit ?_ | refine Z9 ?_ | refine Z8 ?_ | refine Z27 ?_ | refine Z15 ?_ | refine Z101 rfl ?_ | refine Z16 ?_))
 refine Z2 ?_
 refine Z12 Tryd.call44 rfl (header_slots_does w0 ((some b2, blk [.bool false, nsl, nsl] 25) :: (some b1, blk (a0.C A c).C 38) :: N) b1) rfl rfl ?_; rintro _ B0 ⟨_, rfl, rfl⟩; refine Z20 (M' := (some b2, blk [.bool false, nsl, nsl] 25) :: (some b1, blk (a0.C A c).C 38) :: N) (fun w m => m.appR) ?_
 refine Z0 (Z3 rfl) rfl (Z6 ?_)
 (repeat (first | refine Z4 ?_ | refine Z1 ?_ | refine CW.block ?_ | refine CW.ret ?_ | refine CW.skip ?_ | refine CW.exit ?_ | refine Z9 ?_ | refine Z8 ?_ | refine Z27 ?_ | refine Z15 ?_ | refine Z101 rfl ?_ | refine Z16 ?_))
 refine Z139 (fun k L' M' => ∃ (i : Nat) (Bx : List Ent) (xs : List It) (cs : List Value) (ob : Option Nat) (cap : Nat) (r : List Value), k = 21 - i ∧ i ≤ 21 ∧ itemsOf (a0.fds.take (min i n)) = some xs ∧ Reps (ItRd (More w0 Φ (Bx ++ [(some b1, blk (a0.C A c).C 38)]))) cs xs ∧ OwnS ob xs.length cap 3 cs r ∧
  L' = [(1, ptr (some b1) 0), (2, ptr (some b2) 0), (5, sl ob 0 xs.length cap), (14, .agg (slotC b1).toArray), (15, .int .i64 (i : Int))] ∧ M' = (ob, blk (cs ++ r) 25) :: (some b2, blk [.bool false, nsl, nsl] 25) :: ((Bx ++ [(some b1, blk (a0.C A c).C 38)]) ++ N)) (k0 := 21)
  ⟨0, [], [], [], none, 0, [], rfl, by omega, by simp [itemsOf], Reps.nil, OwnS.nil, rfl, rfl⟩ ⟨rfl, rfl, rfl, rfl, rfl, trivial⟩ (fun w m => m.nil_ent _) ?_
 rintro k L' M' ⟨i, Bx, xs, cs, ob, cap, r, rfl, hi, hxs, hcs, ho, rfl, rfl⟩
 have hxl := itemsOf_length hxs
 rw [List.length_take] at hxl
 have hfl := a0.fds_length
 (repeat (first | refine Z4 ?_ | refine Z1 ?_ | refine CW.block ?_ | refine CW.ret ?_ | refine CW.skip ?_ | refine CW.exit ?_ | refine Z9 ?_ | refine Z8 ?_ | refine Z27 ?_ | refine Z15 ?_ | refine Z101 rfl ?_ | refine Z16 ?_))
 refine Z2 (Z0 (RV.lss rfl rfl) rfl (Z6 ?_))
 (repeat (first | refine Z4 ?_ | refine Z1 ?_ | refine CW.block ?_ | refine CW.ret ?_ | refine CW.skip ?_ | refine CW.exit ?_ | refine Z9 ?_ | refine Z8 ?_ | refine Z27 ?_ | refine Z15 ?_ | refine Z101 rfl ?_ | refine Z16 ?_))
 (first | refine Z113 rfl ?_ | refine Z115 rfl ?_ | refine Z114 rfl (fun hlt => ?_) (fun hlt => ?_) | refine Z111 rfl (fun hlt => ?_) (fun hlt => ?_) | refine CW.cond rfl (fun hlt => ?_) (fun hlt => ?_))
 ·have h3 : i < 21 := by omega
  obtain ⟨s, hs⟩ : ∃ s, slotL[i]? = some s := ⟨_, List.getElem?_eq_getElem (show i < slotL.length from h3)⟩
  obtain ⟨f, hfd⟩ : ∃ f, a0.fds[i]? = some f := ⟨_, List.getElem?_eq_getElem (show i < a0.fds.length from h3)⟩
  have hsl := (a0.slotsAt hh hv hs hfd).mono (Ψ := More w0 Φ (Bx ++ [(some b1, blk (a0.C A c).C 38)])) (fun w q => q.app)
  (repeat (first | refine Z4 ?_ | refine Z1 ?_ | refine CW.block ?_ | refine CW.ret ?_ | refine CW.skip ?_ | refine CW.exit ?_ | refine Z9 ?_ | refine Z8 ?_ | refine Z27 ?_ | refine Z15 ?_ | refine Z101 rfl ?_ | refine Z16 ?_))
  refine Z2 (Z0 (Z3 rfl) rfl (Z0 (RV.indexVs i rfl rfl rfl rfl rfl rfl rfl (by omega) (slotC_part b1 i hs)) rfl (OW.alloc rfl rfl rfl (fun b7 => (Z0 (Z5 rfl) rfl (Z28 (Z107 rfl rfl rfl (Slk.cells_one b1 s) rfl rfl (Z135 b1 s)) (Z6 ?_)))))))
  (repeat (first | refine Z4 ?_ | refine Z1 ?_ | refine CW.block ?_ | refine CW.ret ?_ | refine CW.skip ?_ | refine CW.exit ?_ | refine Z9 ?_ | refine Z8 ?_ | refine Z27 ?_ | refine Z15 ?_ | refine Z101 rfl ?_ | refine Z16 ?_))
  by_cases h4 : i < n
  ·obtain ⟨x, hx, _⟩ := itemsOf_at hl (i := i) (f := f) (by rw [List.getElem?_take_of_lt h4]; exact hfd)
   have hxs2 : itemsOf (a0.fds.take (min (i + 1) n)) = some (xs ++ [x]) := by
    rw [show min (i + 1) n = i + 1 by omega, List.take_add_one, hfd]
    rw [show min i n = i by omega] at hxs
    exact itemsOf_snoc hxs hx
   (repeat (first | refine Z4 ?_ | refine Z1 ?_ | refine CW.block ?_ | refine CW.ret ?_ | refine CW.skip ?_ | refine CW.exit ?_ | refine Z9 ?_ | refine Z8 ?_ | refine Z27 ?_ | refine Z15 ?_ | refine Z101 rfl ?_ | refine Z16 ?_))
   refine Z2 (Z0 (Z3 rfl) rfl (Z0 (Z30 rfl rfl rfl rfl) rfl (Z0 (Z21 (a := ⟨b1, 0 + 485, none⟩) rfl rfl rfl (fun w m => ((hh w (More.app (More.of hΦ 3 m rfl))).cell (List.mem_cons_self ..) 485).trans htl)) rfl ?_)))
   refine Z12 Tryd.call53 rfl (Z138 w0 (fun _ => True) ((some b7, blk (s.cells b1) 96) :: (ob, blk (cs ++ r) 25) :: (some b2, blk [.bool false, nsl, nsl] 25) :: ((Bx ++ [(some b1, blk (a0.C A c).C 38)]) ++ N)) (fun _ _ => trivial) a0.tail n ht hn) rfl rfl ?_; rintro _ G1 ⟨hnb, rfl⟩; refine Z20 (M' := (some b7, blk (s.cells b1) 96) :: (ob, blk (cs ++ r) 25) :: (some b2, blk [.bool false, nsl, nsl] 25) :: ((Bx ++ [(some b1, blk (a0.C A c).C 38)]) ++ N)) (fun w m => m.appR) ?_
   refine Z0 (RV.lss_t rfl rfl (by omega)) rfl (Z6 ?_)
   (repeat (first | refine Z4 ?_ | refine Z1 ?_ | refine CW.block ?_ | refine CW.ret ?_ | refine CW.skip ?_ | refine CW.exit ?_ | refine Z9 ?_ | refine Z8 ?_ | refine Z27 ?_ | refine Z15 ?_ | refine Z101 rfl ?_ | refine Z16 ?_))
   (first | refine Z113 rfl ?_ | refine Z115 rfl ?_ | refine Z114 rfl (fun h9 => ?_) (fun h9 => ?_) | refine Z111 rfl (fun h9 => ?_) (fun h9 => ?_) | refine CW.cond rfl (fun h9 => ?_) (fun h9 => ?_))
   (repeat (first | refine Z4 ?_ | refine Z1 ?_ | refine CW.block ?_ | refine CW.ret ?_ | refine CW.skip ?_ | refine CW.exit ?_ | refine Z9 ?_ | refine Z8 ?_ | refine Z27 ?_ | refine Z15 ?_ | refine Z101 rfl ?_ | refine Z16 ?_))
   refine Z2 (Z0 (Z3 rfl) rfl (Z0 (Z22 rfl Zh rfl rfl rfl rfl (Z135 b1 s)) rfl ?_))
   refine Z12 Tryd.call56 rfl (hslot_item_does w0 (More w0 Φ (Bx ++ [(some b1, blk (a0.C A c).C 38)])) ((some b7, blk (s.cells b1) 96) :: (ob, blk (cs ++ r) 25) :: (some b2, blk [.bool false, nsl, nsl] 25) :: ((Bx ++ [(some b1, blk (a0.C A c).C 38)]) ++ N)) (fun w m => More.of hΦ 3 m rfl) b1 s f x hsl hx) rfl rfl ?_; rintro _ B1 ⟨_, cr, hcr, rfl, rfl⟩; have hcl := ItRd.len _ _ hcr; refine Z20 (M' := (ob, blk (cs ++ r) 25) :: (some b2, blk [.bool false, nsl, nsl] 25) :: (((B1 ++ Bx) ++ [(some b1, blk (a0.C A c).C 38)]) ++ N)) (fun w m => by have m2 := m.sk0.tail.sk0.sk1; simpa only [List.append_assoc] using m2) ?_
   refine OW.ofN (NV.bsA rfl rfl (by intro x hx; simp at hx; subst hx; exact hcl) rfl rfl rfl (by decide) (by decide) rfl) rfl (fun bs => ?_); refine OW.cells cr (by simp) ?_; refine OW.rot1 ?_
   refine OW.appendOwn (s := 3) rfl rfl rfl rfl rfl rfl ho (fun w m => m.rd0 (r := []) (List.Mem.tail _ (by rw [List.append_nil]; exact List.Mem.head _)) (fun e => nomatch e)) hcl (ItRd.one _ _ hcr) (fun e => nomatch e) (by decide) (by decide) (by simp only [i25]; omega) rfl rfl ((xs ++ [x]).length) (cs ++ cr) (by simp) rfl (fun ob2 r2 c2 o2 => ?_)
   refine Z0 (Z5 rfl) rfl (Z6 ?_)
   (repeat (first | refine Z4 ?_ | refine Z1 ?_ | refine CW.block ?_ | refine CW.ret ?_ | refine CW.skip ?_ | refine CW.exit ?_ | refine Z9 ?_ | refine Z8 ?_ | refine Z27 ?_ | refine Z15 ?_ | refine Z101 rfl ?_ | refine Z16 ?_))
   refine Z2 (Z0 (RV.add rfl rfl (by omega)) rfl (Z0 (Z3 rfl) rfl (Z6 ?_)))
   (repeat (first | refine Z4 ?_ | refine Z1 ?_ | refine CW.block ?_ | refine CW.ret ?_ | refine CW.skip ?_ | refine CW.exit ?_ | refine Z9 ?_ | refine Z8 ?_ | refine Z27 ?_ | refine Z15 ?_ | refine Z101 rfl ?_ | refine Z16 ?_))
   refine Z132 (k' := 21 - (i + 1)) (by omega) ⟨i + 1, B1 ++ Bx, xs ++ [x], cs ++ cr, ob2, c2, r2, rfl, by omega, hxs2, ?_, o2, rfl, rfl⟩ ⟨rfl, rfl, rfl, rfl, rfl, trivial⟩ (fun w m => m.pick [0, 2] 3 rfl rfl)
   exact (hcs.mono (ItRd.mono (fun w q => by rw [List.append_assoc] at q; exact q.app))).snoc (ItRd.mono (fun w q => by rw [List.append_assoc] at q; exact q.flat) _ _ hcr)
  ·have hxs2 : itemsOf (a0.fds.take (min (i + 1) n)) = some xs := by rw [show min (i + 1) n = min i n by omega]; exact hxs
   (repeat (first | refine Z4 ?_ | refine Z1 ?_ | refine CW.block ?_ | refine CW.ret ?_ | refine CW.skip ?_ | refine CW.exit ?_ | refine Z9 ?_ | refine Z8 ?_ | refine Z27 ?_ | refine Z15 ?_ | refine Z101 rfl ?_ | refine Z16 ?_))
   refine Z2 (Z0 (Z3 rfl) rfl (Z0 (Z30 rfl rfl rfl rfl) rfl (Z0 (Z21 (a := ⟨b1, 0 + 485, none⟩) rfl rfl rfl (fun w m => ((hh w (More.app (More.of hΦ 3 m rfl))).cell (List.mem_cons_self ..) 485).trans htl)) rfl ?_)))
   refine Z12 Tryd.call53 rfl (Z138 w0 (fun _ => True) ((some b7, blk (s.cells b1) 96) :: (ob, blk (cs ++ r) 25) :: (some b2, blk [.bool false, nsl, nsl] 25) :: ((Bx ++ [(some b1, blk (a0.C A c).C 38)]) ++ N)) (fun _ _ => trivial) a0.tail n ht hn) rfl rfl ?_; rintro _ G1 ⟨hnb, rfl⟩; refine Z20 (M' := (ob, blk (cs ++ r) 25) :: (some b2, blk [.bool false, nsl, nsl] 25) :: ((Bx ++ [(some b1, blk (a0.C A c).C 38)]) ++ N)) (fun w m => (m.appR).tail) ?_
   refine Z0 (RV.lss_f rfl rfl (by omega)) rfl (Z6 ?_)
   (repeat (first | refine Z4 ?_ | refine Z1 ?_ | refine CW.block ?_ | refine CW.ret ?_ | refine CW.skip ?_ | refine CW.exit ?_ | refine Z9 ?_ | refine Z8 ?_ | refine Z27 ?_ | refine Z15 ?_ | refine Z101 rfl ?_ | refine Z16 ?_))
   (first | refine Z113 rfl ?_ | refine Z115 rfl ?_ | refine Z114 rfl (fun h9 => ?_) (fun h9 => ?_) | refine Z111 rfl (fun h9 => ?_) (fun h9 => ?_) | refine CW.cond rfl (fun h9 => ?_) (fun h9 => ?_))
   (repeat (first | refine Z4 ?_ | refine Z1 ?_ | refine CW.block ?_ | refine CW.ret ?_ | refine CW.skip ?_ | refine CW.exit ?_ | refine Z9 ?_ | refine Z8 ?_ | refine Z27 ?_ | refine Z15 ?_ | refine Z101 rfl ?_ | refine Z16 ?_))
   refine Z2 (Z0 (RV.add rfl rfl (by omega)) rfl (Z0 (Z3 rfl) rfl (Z6 ?_)))
   (repeat (first | refine Z4 ?_ | refine Z1 ?_ | refine CW.block ?_ | refine CW.ret ?_ | refine CW.skip ?_ | refine CW.exit ?_ | refine Z9 ?_ | refine Z8 ?_ | refine Z27 ?_ | refine Z15 ?_ | refine Z101 rfl ?_ | refine Z16 ?_))
   refine Z132 (k' := 21 - (i + 1)) (by omega) ⟨i + 1, Bx, xs, cs, ob, cap, r, rfl, by omega, hxs2, hcs, ho, rfl, rfl⟩ ⟨rfl, rfl, rfl, rfl, rfl, trivial⟩ (fun w m => m)
 ·have e1 : a0.fds.take (min i n) = a0.fds.take n := by
   by_cases h5 : n ≤ i
   ·rw [Nat.min_eq_right h5]
   ·rw [List.take_of_length_le (by omega), List.take_of_length_le (by omega)]
  rw [e1, hl] at hxs
  obtain rfl := Zi hxs
  have hvl := ho.view (te := 25) (w0 := w0) (Ψ := More w0 Φ ((ob, blk (cs ++ r) 25) :: (Bx ++ [(some b1, blk (a0.C A c).C 38)]))) (by decide) (fun w q => q.2.sublist (List.singleton_sublist.2 (List.mem_cons_self ..)))
  (repeat (first | refine Z4 ?_ | refine Z1 ?_ | refine CW.block ?_ | refine CW.ret ?_ | refine CW.skip ?_ | refine CW.exit ?_ | refine Z9 ?_ | refine Z8 ?_ | refine Z27 ?_ | refine Z15 ?_ | refine Z101 rfl ?_ | refine Z16 ?_))
  refine Z2 (Z0 (Z3 rfl) rfl ?_)
  refine Z12 Tryd.call57 rfl (rlp_List_does w0 (More w0 Φ ((ob, blk (cs ++ r) 25) :: (Bx ++ [(some b1, blk (a0.C A c).C 38)]))) ((ob, blk (cs ++ r) 25) :: (some b2, blk [.bool false, nsl, nsl] 25) :: ((Bx ++ [(some b1, blk (a0.C A c).C 38)]) ++ N)) (fun w m => by have q : Mem w0 w ((ob, blk (cs ++ r) 25) :: ((Bx ++ [(some b1, blk (a0.C A c).C 38)]) ++ N)) := m.pick [0] 2 rfl rfl; exact ⟨hΦ w q.tail.appR, (show Mem w0 w (((ob, blk (cs ++ r) 25) :: (Bx ++ [(some b1, blk (a0.C A c).C 38)])) ++ N) from q).appL⟩) _ cap cs l x0 hvl (hcs.mono (ItRd.mono (fun w q => ⟨q.1, q.2.tail⟩))) hx0) rfl rfl ?_; rintro _ B1 ⟨_, cr, hcr, rfl, rfl⟩; refine Z20 (M' := (some b2, blk [.bool false, nsl, nsl] 25) :: (ob, blk (cs ++ r) 25) :: (B1 ++ ((Bx ++ [(some b1, blk (a0.C A c).C 38)]) ++ N))) (fun w m => m.sk0.sk1.rot1) ?_
  refine Z28 (Z107 rfl rfl rfl (ItRd.one _ _ hcr) rfl rfl (ItRd.len _ _ hcr)) (Z0 (Z5 rfl) rfl (Z6 ?_))
  (repeat (first | refine Z4 ?_ | refine Z1 ?_ | refine CW.block ?_ | refine CW.ret ?_ | refine CW.skip ?_ | refine CW.exit ?_ | refine Z9 ?_ | refine Z8 ?_ | refine Z27 ?_ | refine Z15 ?_ | refine Z101 rfl ?_ | refine Z16 ?_))
  refine Z110 (rs := [.cell 2 25, .tmp 3]) [.agg cr.toArray, .int .i64 ((0 : Nat) : Int)] ((some b2, blk cr 25) :: (ob, blk (cs ++ r) 25) :: (B1 ++ (Bx ++ [(some b1, blk (a0.C A c).C 38)]))) rfl ?_ rfl ?_ ?_ _ (.inl rfl)
  ·exact ⟨⟨_, _, _, _, rfl, Zh, rfl, rfl, (by rw [ItRd.len _ _ hcr]; rfl), rfl⟩, rfl, trivial⟩
  ·exact ⟨_, _, ItRd.mono (fun w q => ⟨⟨q.1, q.2.tail.sublist (List.Sublist.cons_cons _ (List.sublist_append_right _ _))⟩, q.2.tail.tail.appL⟩) _ _ hcr, by omega, rfl, rfl⟩
  ·exact fun w m => by simpa only [List.append_assoc, List.cons_append] using m
theorem hslot_read_does (w0 : World) (Φ : Ctx) (N : List Ent) (hΦ : ∀ w, Mem w0 w N → Φ w) (b : Nat) (s : Slk) (l : List Value) (te : TypeId) (cs : List Value) (it : It) (fd : Fd) (e : Nat) (hw : s.width ≤ 1000) (hsz : s.off + s.sz ≤ l.length) (hit : ItRd Φ cs it) (hf : readS s it = some (fd, e)) : DoesG Tryd.prog 45 [.agg (s.cells b).toArray, .agg cs.toArray, .int .i64 s.width] w0 [(some b, blk l te)] N (fun v G => ∃ B l', e ≤ 9223372036854775807 ∧ v = .int .i64 (e : Int) ∧ G = (some b, blk l' te) :: B ∧ Wrote (More w0 Φ B) l l' s fd) := by
 have hcl : cs.length = 3 := ItRd.len _ _ hit
 refine DoesG.enter Tryd.func45 rfl Tryd.ntmps45 rfl (M := (some b, blk l te) :: N) rfl ?_
 (repeat (first | refine Z4 ?_ | refine Z1 ?_ | refine CW.block ?_ | refine CW.ret ?_ | refine CW.skip ?_ | refine CW.exit ?_ | refine Z9 ?_ | refine Z8 ?_ | refine Z27 ?_ | refine Z15 ?_ | refine Z101 rfl ?_ | refine Z16 ?_))
 refine Z2 (OW.boxA rfl rfl (fun b3 => (OW.boxA rfl rfl (fun b4 => (Z0 (Z5 rfl) rfl (Z6 ?_))))))
 (repeat (first | refine Z4 ?_ | refine Z1 ?_ | refine CW.block ?_ | refine CW.ret ?_ | refine CW.skip ?_ | refine CW.exit ?_ | refine Z9 ?_ | refine Z8 ?_ | refine Z27 ?_ | refine Z15 ?_ | refine Z101 rfl ?_ | refine Z16 ?_))
 refine Z2 (Z0 (Z5 rfl) rfl (Z6 ?_))
 (repeat (first | refine Z4 ?_ | refine Z1 ?_ | refine CW.block ?_ | refine CW.ret ?_ | refine CW.skip ?_ | refine CW.exit ?_ | refine Z9 ?_ | refine Z8 ?_ | refine Z27 ?_ | refine Z15 ?_ | refine Z101 rfl ?_ | refine Z16 ?_))
 refine Z2 (Z0 (Z3 rfl) rfl (Z6 ?_))
 (repeat (first | refine Z4 ?_ | refine Z1 ?_ | refine CW.block ?_ | refine CW.ret ?_ | refine CW.skip ?_ | refine CW.exit ?_ | refine Z9 ?_ | refine Z8 ?_ | refine Z27 ?_ | refine Z15 ?_ | refine Z101 rfl ?_ | refine Z16 ?_))
 cases s
 ·rename_i o n
  simp only [Slk.width, Slk.off, Slk.sz] at *
  obtain ⟨⟨x, e1⟩, hx, hf⟩ := Option.bind_eq_some_iff.1 hf
  obtain ⟨rfl, rfl⟩ := Prod.mk.inj (Zi hf)
  dsimp only at *
  have hxl : x.length ≤ n := by rcases getFixed_len hx with ⟨_, h⟩ | ⟨_, h⟩ <;> simp [h]
  (repeat (first | refine Z4 ?_ | refine Z1 ?_ | refine CW.block ?_ | refine CW.ret ?_ | refine CW.skip ?_ | refine CW.exit ?_ | refine Z9 ?_ | refine Z8 ?_ | refine Z27 ?_ | refine Z15 ?_ | refine Z101 rfl ?_ | refine Z16 ?_))
  refine Z2 (Z0 (RV.eql_f rfl rfl (by omega)) rfl (Z0 (Z5 rfl) rfl (Z6 ?_)))
  (repeat (first | refine Z4 ?_ | refine Z1 ?_ | refine CW.block ?_ | refine CW.ret ?_ | refine CW.skip ?_ | refine CW.exit ?_ | refine Z9 ?_ | refine Z8 ?_ | refine Z27 ?_ | refine Z15 ?_ | refine Z101 rfl ?_ | refine Z16 ?_))
  (first | refine Z113 rfl ?_ | refine Z115 rfl ?_ | refine Z114 rfl (fun h9 => ?_) (fun h9 => ?_) | refine Z111 rfl (fun h9 => ?_) (fun h9 => ?_) | refine CW.cond rfl (fun h9 => ?_) (fun h9 => ?_))
  (repeat (first | refine Z4 ?_ | refine Z1 ?_ | refine CW.block ?_ | refine CW.ret ?_ | refine CW.skip ?_ | refine CW.exit ?_ | refine Z9 ?_ | refine Z8 ?_ | refine Z27 ?_ | refine Z15 ?_ | refine Z101 rfl ?_ | refine Z16 ?_))
  refine Z2 (Z0 (RV.eql_f rfl rfl (by omega)) rfl (Z0 (Z5 rfl) rfl (Z6 ?_)))
  (repeat (first | refine Z4 ?_ | refine Z1 ?_ | refine CW.block ?_ | refine CW.ret ?_ | refine CW.skip ?_ | refine CW.exit ?_ | refine Z9 ?_ | refine Z8 ?_ | refine Z27 ?_ | refine Z15 ?_ | refine Z101 rfl ?_ | refine Z16 ?_))
  (first | refine Z113 rfl ?_ | refine Z115 rfl ?_ | refine Z114 rfl (fun h9 => ?_) (fun h9 => ?_) | refine Z111 rfl (fun h9 => ?_) (fun h9 => ?_) | refine CW.cond rfl (fun h9 => ?_) (fun h9 => ?_))
  (repeat (first | refine Z4 ?_ | refine Z1 ?_ | refine CW.block ?_ | refine CW.ret ?_ | refine CW.skip ?_ | refine CW.exit ?_ | refine Z9 ?_ | refine Z8 ?_ | refine Z27 ?_ | refine Z15 ?_ | refine Z101 rfl ?_ | refine Z16 ?_))
  refine Z2 (Z0 (RV.eql_f rfl rfl (by omega)) rfl (Z0 (Z5 rfl) rfl (Z6 ?_)))
  (repeat (first | refine Z4 ?_ | refine Z1 ?_ | refine CW.block ?_ | refine CW.ret ?_ | refine CW.skip ?_ | refine CW.exit ?_ | refine Z9 ?_ | refine Z8 ?_ | refine Z27 ?_ | refine Z15 ?_ | refine Z101 rfl ?_ | refine Z16 ?_))
  (first | refine Z113 rfl ?_ | refine Z115 rfl ?_ | refine Z114 rfl (fun h9 => ?_) (fun h9 => ?_) | refine Z111 rfl (fun h9 => ?_) (fun h9 => ?_) | refine CW.cond rfl (fun h9 => ?_) (fun h9 => ?_))
  (repeat (first | refine Z4 ?_ | refine Z1 ?_ | refine CW.block ?_ | refine CW.ret ?_ | refine CW.skip ?_ | refine CW.exit ?_ | refine Z9 ?_ | refine Z8 ?_ | refine Z27 ?_ | refine Z15 ?_ | refine Z101 rfl ?_ | refine Z16 ?_))
  refine Z2 (Z0 (Z5 rfl) rfl (Z6 ?_))
  (repeat (first | refine Z4 ?_ | refine Z1 ?_ | refine CW.block ?_ | refine CW.ret ?_ | refine CW.skip ?_ | refine CW.exit ?_ | refine Z9 ?_ | refine Z8 ?_ | refine Z27 ?_ | refine Z15 ?_ | refine Z101 rfl ?_ | refine Z16 ?_))
  refine Z2 (Z0 (Z22 rfl Zh rfl rfl rfl rfl hcl) rfl (Z0 (Z3 rfl) rfl ?_))
  refine Z12 Tryd.call37 rfl (rlp_GetFixed_does w0 Φ ((some b4, blk cs 25) :: (some b3, blk (Slk.cells b (.text o n)) 96) :: (some b, blk l te) :: N) (fun w m => hΦ w (m.drop 3)) cs it n x e1 hit (by omega) hx) rfl rfl ?_; rintro _ _ ⟨B, ob, c, r, o1, heb, rfl, rfl⟩; refine Z20 (M' := (some b, blk l te) :: (some b3, blk (Slk.cells b (.text o n)) 96) :: (ob, blk (u8s x ++ r) 5) :: (B ++ N)) (fun w m => (m.sk1.sk2.sk3).pick [3, 2, 0] 4 rfl rfl) ?_
  refine Z0 (Z3 rfl) rfl (Z0 (Z17 rfl rfl) rfl (Z0 (Z17 rfl rfl) rfl (Z0 (Z5 rfl) rfl (Z0 (Z5 rfl) rfl (Z6 ?_)))))
  (repeat (first | refine Z4 ?_ | refine Z1 ?_ | refine CW.block ?_ | refine CW.ret ?_ | refine CW.skip ?_ | refine CW.exit ?_ | refine Z9 ?_ | refine Z8 ?_ | refine Z27 ?_ | refine Z15 ?_ | refine Z101 rfl ?_ | refine Z16 ?_))
  refine Z2 (Z0 (Z30 rfl rfl rfl rfl) rfl ?_)
  (first | refine Z0 (Z29 rfl (by (repeat (first | exact List.Mem.head _ | assumption | refine List.Mem.tail _ ?_)); done) (by first | rfl | assumption) rfl rfl (by first | rfl | assumption)) rfl ?_ | refine Z0 (Z21 rfl rfl rfl (by (repeat (first | assumption | refine Mem.Says.cons ?_)); done)) rfl ?_)
  refine Z0 (Z3 rfl) rfl (OW.copyS (s := 1) rfl rfl rfl rfl (fun h => nomatch h) (by omega) (fun w m => m.rd0 (List.Mem.tail _ (List.Mem.tail _ Zh)) (fun h => o1.nilc (by decide) h)) ((Z100 _).trans (Nat.mul_one _).symm) (Z133 _) (o1.zeroO (by decide)) rfl (Z6 ?_))
  (repeat (first | refine Z4 ?_ | refine Z1 ?_ | refine CW.block ?_ | refine CW.ret ?_ | refine CW.skip ?_ | refine CW.exit ?_ | refine Z9 ?_ | refine Z8 ?_ | refine Z27 ?_ | refine Z15 ?_ | refine Z101 rfl ?_ | refine Z16 ?_))
  refine Z2 (Z0 (Z3 rfl) rfl (Z0 (Z5 rfl) rfl (Z6 ?_)))
  (repeat (first | refine Z4 ?_ | refine Z1 ?_ | refine CW.block ?_ | refine CW.ret ?_ | refine CW.skip ?_ | refine CW.exit ?_ | refine Z9 ?_ | refine Z8 ?_ | refine Z27 ?_ | refine Z15 ?_ | refine Z101 rfl ?_ | refine Z16 ?_))
  refine Z110 (rs := [.tmp 6]) [.int .i64 (e1 : Int)] ((some b, blk (spl l o (u8s x)) te) :: (ob, blk (u8s x ++ r) 5) :: B) rfl ⟨rfl, trivial⟩ rfl ⟨_, _, heb, rfl, rfl, hxl, rfl⟩ (fun w m => ?_) _ (.inl rfl)
  rw [Nat.min_eq_left hxl, Nat.mul_one, List.take_of_length_le (by rw [Z100]; omega)] at m
  exact m.pick [0, 2] 3 rfl rfl
 ·rename_i o
  simp only [Slk.width, Slk.off, Slk.sz] at *
  obtain ⟨⟨x, e1⟩, hx, hf⟩ := Option.bind_eq_some_iff.1 hf
  obtain ⟨rfl, rfl⟩ := Prod.mk.inj (Zi hf)
  dsimp only at *
  (repeat (first | refine Z4 ?_ | refine Z1 ?_ | refine CW.block ?_ | refine CW.ret ?_ | refine CW.skip ?_ | refine CW.exit ?_ | refine Z9 ?_ | refine Z8 ?_ | refine Z27 ?_ | refine Z15 ?_ | refine Z101 rfl ?_ | refine Z16 ?_))
  refine Z2 (Z0 (RV.eql_t rfl rfl rfl) rfl (Z0 (Z5 rfl) rfl (Z6 ?_)))
  (repeat (first | refine Z4 ?_ | refine Z1 ?_ | refine CW.block ?_ | refine CW.ret ?_ | refine CW.skip ?_ | refine CW.exit ?_ | refine Z9 ?_ | refine Z8 ?_ | refine Z27 ?_ | refine Z15 ?_ | refine Z101 rfl ?_ | refine Z16 ?_))
  (first | refine Z113 rfl ?_ | refine Z115 rfl ?_ | refine Z114 rfl (fun h9 => ?_) (fun h9 => ?_) | refine Z111 rfl (fun h9 => ?_) (fun h9 => ?_) | refine CW.cond rfl (fun h9 => ?_) (fun h9 => ?_))
  (repeat (first | refine Z4 ?_ | refine Z1 ?_ | refine CW.block ?_ | refine CW.ret ?_ | refine CW.skip ?_ | refine CW.exit ?_ | refine Z9 ?_ | refine Z8 ?_ | refine Z27 ?_ | refine Z15 ?_ | refine Z101 rfl ?_ | refine Z16 ?_))
  refine CW.drawsX ((some b4, blk cs 25) :: (some b3, blk (Slk.cells b (.big o)) 96) :: N) [8] (fun w m => m.pick [0, 1] 3 rfl rfl) mixed (by kernel_rfl) (Z10 0 rfl (by kernel_rfl) rfl (Z30 rfl rfl rfl rfl) rfl (Z10 1 rfl (by kernel_rfl) rfl (Z29 rfl (List.Mem.tail _ Zh) rfl rfl rfl rfl) rfl (Z10 2 rfl (by kernel_rfl) rfl (Z22 rfl Zh rfl rfl rfl rfl hcl) rfl (Z11 3 rfl (by kernel_rfl) rfl Tryd.call83 rfl (fun N2 h2 => rlp_GetNumber_does w0 Φ N2 (fun w m => hΦ w ((h2 w m).drop 3)) cs it x e1 hit hx) rfl ?_))))
  rintro _ B ⟨heb, rfl⟩
  refine Z10 4 rfl (by kernel_rfl) rfl (Z3 rfl) rfl (Z10 5 rfl (by kernel_rfl) rfl (Z17 rfl rfl) rfl (Z10 6 rfl (by kernel_rfl) rfl (Z17 rfl rfl) rfl (Z10 7 rfl (by kernel_rfl) rfl (RV.nilCheck rfl) rfl (Z19 (M' := (some b, blk l te) :: (some b4, blk cs 25) :: (some b3, blk (Slk.cells b (.big o)) 96) :: (B ++ N)) (fun w m => (m.sk0.sk1.sk2).pick [2, 0, 1] 3 rfl rfl) (fun w m => (m.pick [1, 2] 3 rfl rfl : Mem w0 w ((some b4, blk cs 25) :: (some b3, blk (Slk.cells b (.big o)) 96) :: (B ++ N))).sublist (List.Sublist.cons_cons _ (List.Sublist.cons_cons _ (List.sublist_append_right _ _)))) (XW.sv 8 rfl (by kernel_rfl) (Z116 rfl rfl rfl (Z119 _) rfl ((Z102 _).trans Zv) hsz) (fun w m => (m.pick [1, 2] 3 rfl rfl : Mem w0 w ((some b4, blk cs 25) :: (some b3, blk (Slk.cells b (.big o)) 96) :: (B ++ N))).sublist (List.Sublist.cons_cons _ (List.Sublist.cons_cons _ (List.sublist_append_right _ _)))) (Z10 9 rfl (by kernel_rfl) rfl (Z5 rfl) rfl (XW.nil (by kernel_rfl) ?_)))))))
  (repeat (first | refine Z4 ?_ | refine Z1 ?_ | refine CW.block ?_ | refine CW.ret ?_ | refine CW.skip ?_ | refine CW.exit ?_ | refine Z9 ?_ | refine Z8 ?_ | refine Z27 ?_ | refine Z15 ?_ | refine Z101 rfl ?_ | refine Z16 ?_))
  refine Z2 (Z0 (Z3 rfl) rfl (Z0 (Z5 rfl) rfl (Z6 ?_)))
  (repeat (first | refine Z4 ?_ | refine Z1 ?_ | refine CW.block ?_ | refine CW.ret ?_ | refine CW.skip ?_ | refine CW.exit ?_ | refine Z9 ?_ | refine Z8 ?_ | refine Z27 ?_ | refine Z15 ?_ | refine Z101 rfl ?_ | refine Z16 ?_))
  refine Z110 (rs := [.tmp 6]) [.int .i64 (e1 : Int)] ((some b, blk (spl l o (u64s x.toList)) te) :: B) rfl ⟨rfl, trivial⟩ rfl ⟨_, _, heb, rfl, rfl, rfl⟩ (fun w m => m.pick [0] 3 rfl rfl) _ (.inl rfl)
 ·rename_i o
  simp only [Slk.width, Slk.off, Slk.sz] at *
  obtain ⟨⟨x, e1⟩, hx, hf⟩ := Option.bind_eq_some_iff.1 hf
  obtain ⟨rfl, rfl⟩ := Prod.mk.inj (Zi hf)
  dsimp only at *
  (repeat (first | refine Z4 ?_ | refine Z1 ?_ | refine CW.block ?_ | refine CW.ret ?_ | refine CW.skip ?_ | refine CW.exit ?_ | refine Z9 ?_ | refine Z8 ?_ | refine Z27 ?_ | refine Z15 ?_ | refine Z101 rfl ?_ | refine Z16 ?_))
  refine Z2 (Z0 (RV.eql_f rfl rfl (by decide)) rfl (Z0 (Z5 rfl) rfl (Z6 ?_)))
  (repeat (first | refine Z4 ?_ | refine Z1 ?_ | refine CW.block ?_ | refine CW.ret ?_ | refine CW.skip ?_ | refine CW.exit ?_ | refine Z9 ?_ | refine Z8 ?_ | refine Z27 ?_ | refine Z15 ?_ | refine Z101 rfl ?_ | refine Z16 ?_))
  (first | refine Z113 rfl ?_ | refine Z115 rfl ?_ | refine Z114 rfl (fun h9 => ?_) (fun h9 => ?_) | refine Z111 rfl (fun h9 => ?_) (fun h9 => ?_) | refine CW.cond rfl (fun h9 => ?_) (fun h9 => ?_))
  (repeat (first | refine Z4 ?_ | refine Z1 ?_ | refine CW.block ?_ | refine CW.ret ?_ | refine CW.skip ?_ | refine CW.exit ?_ | refine Z9 ?_ | refine Z8 ?_ | refine Z27 ?_ | refine Z15 ?_ | refine Z101 rfl ?_ | refine Z16 ?_))
  refine Z2 (Z0 (RV.eql_t rfl rfl rfl) rfl (Z0 (Z5 rfl) rfl (Z6 ?_)))
  (repeat (first | refine Z4 ?_ | refine Z1 ?_ | refine CW.block ?_ | refine CW.ret ?_ | refine CW.skip ?_ | refine CW.exit ?_ | refine Z9 ?_ | refine Z8 ?_ | refine Z27 ?_ | refine Z15 ?_ | refine Z101 rfl ?_ | refine Z16 ?_))
  (first | refine Z113 rfl ?_ | refine Z115 rfl ?_ | refine Z114 rfl (fun h9 => ?_) (fun h9 => ?_) | refine Z111 rfl (fun h9 => ?_) (fun h9 => ?_) | refine CW.cond rfl (fun h9 => ?_) (fun h9 => ?_))
  (repeat (first | refine Z4 ?_ | refine Z1 ?_ | refine CW.block ?_ | refine CW.ret ?_ | refine CW.skip ?_ | refine CW.exit ?_ | refine Z9 ?_ | refine Z8 ?_ | refine Z27 ?_ | refine Z15 ?_ | refine Z101 rfl ?_ | refine Z16 ?_))
  refine CW.drawsX ((some b4, blk cs 25) :: (some b3, blk (Slk.cells b (.word o)) 96) :: N) [8] (fun w m => m.pick [0, 1] 3 rfl rfl) mixed (by kernel_rfl) (Z10 0 rfl (by kernel_rfl) rfl (Z30 rfl rfl rfl rfl) rfl (Z10 1 rfl (by kernel_rfl) rfl (Z29 rfl (List.Mem.tail _ Zh) rfl rfl rfl rfl) rfl (Z10 2 rfl (by kernel_rfl) rfl (Z22 rfl Zh rfl rfl rfl rfl hcl) rfl (Z11 3 rfl (by kernel_rfl) rfl Tryd.call38 rfl (fun N2 h2 => rlp_GetSmall_does w0 Φ N2 (fun w m => hΦ w ((h2 w m).drop 3)) cs it x e1 hit hx) rfl ?_))))
  rintro _ B ⟨heb, rfl⟩
  refine Z10 4 rfl (by kernel_rfl) rfl (Z3 rfl) rfl (Z10 5 rfl (by kernel_rfl) rfl (Z17 rfl rfl) rfl (Z10 6 rfl (by kernel_rfl) rfl (Z17 rfl rfl) rfl (Z10 7 rfl (by kernel_rfl) rfl (RV.nilCheck rfl) rfl (Z19 (M' := (some b, blk l te) :: (some b4, blk cs 25) :: (some b3, blk (Slk.cells b (.word o)) 96) :: (B ++ N)) (fun w m => (m.sk0.sk1.sk2).pick [2, 0, 1] 3 rfl rfl) (fun w m => (m.pick [1, 2] 3 rfl rfl : Mem w0 w ((some b4, blk cs 25) :: (some b3, blk (Slk.cells b (.word o)) 96) :: (B ++ N))).sublist (List.Sublist.cons_cons _ (List.Sublist.cons_cons _ (List.sublist_append_right _ _)))) (XW.sv 8 rfl (by kernel_rfl) (SV.store rfl rfl rfl rfl rfl (by omega)) (fun w m => (m.pick [1, 2] 3 rfl rfl : Mem w0 w ((some b4, blk cs 25) :: (some b3, blk (Slk.cells b (.word o)) 96) :: (B ++ N))).sublist (List.Sublist.cons_cons _ (List.Sublist.cons_cons _ (List.sublist_append_right _ _)))) (Z10 9 rfl (by kernel_rfl) rfl (Z5 rfl) rfl (XW.nil (by kernel_rfl) ?_)))))))
  (repeat (first | refine Z4 ?_ | refine Z1 ?_ | refine CW.block ?_ | refine CW.ret ?_ | refine CW.skip ?_ | refine CW.exit ?_ | refine Z9 ?_ | refine Z8 ?_ | refine Z27 ?_ | refine Z15 ?_ | refine Z101 rfl ?_ | refine Z16 ?_))
  refine Z2 (Z0 (Z3 rfl) rfl (Z0 (Z5 rfl) rfl (Z6 ?_)))
  (repeat (first | refine Z4 ?_ | refine Z1 ?_ | refine CW.block ?_ | refine CW.ret ?_ | refine CW.skip ?_ | refine CW.exit ?_ | refine Z9 ?_ | refine Z8 ?_ | refine Z27 ?_ | refine Z15 ?_ | refine Z101 rfl ?_ | refine Z16 ?_))
  refine Z110 (rs := [.tmp 6]) [.int .i64 (e1 : Int)] ((some b, blk (l.set o (U64 x)) te) :: B) rfl ⟨rfl, trivial⟩ rfl ⟨_, _, heb, rfl, rfl, rfl⟩ (fun w m => m.pick [0] 3 rfl rfl) _ (.inl rfl)
 ·rename_i o
  simp only [Slk.width, Slk.off, Slk.sz] at *
  obtain ⟨⟨x, e1⟩, hx, hf⟩ := Option.bind_eq_some_iff.1 hf
  obtain ⟨rfl, rfl⟩ := Prod.mk.inj (Zi hf)
  dsimp only at *
  (repeat (first | refine Z4 ?_ | refine Z1 ?_ | refine CW.block ?_ | refine CW.ret ?_ | refine CW.skip ?_ | refine CW.exit ?_ | refine Z9 ?_ | refine Z8 ?_ | refine Z27 ?_ | refine Z15 ?_ | refine Z101 rfl ?_ | refine Z16 ?_))
  refine Z2 (Z0 (RV.eql_f rfl rfl (by decide)) rfl (Z0 (Z5 rfl) rfl (Z6 ?_)))
  (repeat (first | refine Z4 ?_ | refine Z1 ?_ | refine CW.block ?_ | refine CW.ret ?_ | refine CW.skip ?_ | refine CW.exit ?_ | refine Z9 ?_ | refine Z8 ?_ | refine Z27 ?_ | refine Z15 ?_ | refine Z101 rfl ?_ | refine Z16 ?_))
  (first | refine Z113 rfl ?_ | refine Z115 rfl ?_ | refine Z114 rfl (fun h9 => ?_) (fun h9 => ?_) | refine Z111 rfl (fun h9 => ?_) (fun h9 => ?_) | refine CW.cond rfl (fun h9 => ?_) (fun h9 => ?_))
  (repeat (first | refine Z4 ?_ | refine Z1 ?_ | refine CW.block ?_ | refine CW.ret ?_ | refine CW.skip ?_ | refine CW.exit ?_ | refine Z9 ?_ | refine Z8 ?_ | refine Z27 ?_ | refine Z15 ?_ | refine Z101 rfl ?_ | refine Z16 ?_))
  refine Z2 (Z0 (RV.eql_f rfl rfl (by decide)) rfl (Z0 (Z5 rfl) rfl (Z6 ?_)))
  (repeat (first | refine Z4 ?_ | refine Z1 ?_ | refine CW.block ?_ | refine CW.ret ?_ | refine CW.skip ?_ | refine CW.exit ?_ | refine Z9 ?_ | refine Z8 ?_ | refine Z27 ?_ | refine Z15 ?_ | refine Z101 rfl ?_ | refine Z16 ?_))
  (first | refine Z113 rfl ?_ | refine Z115 rfl ?_ | refine Z114 rfl (fun h9 => ?_) (fun h9 => ?_) | refine Z111 rfl (fun h9 => ?_) (fun h9 => ?_) | refine CW.cond rfl (fun h9 => ?_) (fun h9 => ?_))
  (repeat (first | refine Z4 ?_ | refine Z1 ?_ | refine CW.block ?_ | refine CW.ret ?_ | refine CW.skip ?_ | refine CW.exit ?_ | refine Z9 ?_ | refine Z8 ?_ | refine Z27 ?_ | refine Z15 ?_ | refine Z101 rfl ?_ | refine Z16 ?_))
  refine Z2 (Z0 (RV.eql_t rfl rfl rfl) rfl (Z0 (Z5 rfl) rfl (Z6 ?_)))
  (repeat (first | refine Z4 ?_ | refine Z1 ?_ | refine CW.block ?_ | refine CW.ret ?_ | refine CW.skip ?_ | refine CW.exit ?_ | refine Z9 ?_ | refine Z8 ?_ | refine Z27 ?_ | refine Z15 ?_ | refine Z101 rfl ?_ | refine Z16 ?_))
  (first | refine Z113 rfl ?_ | refine Z115 rfl ?_ | refine Z114 rfl (fun h9 => ?_) (fun h9 => ?_) | refine Z111 rfl (fun h9 => ?_) (fun h9 => ?_) | refine CW.cond rfl (fun h9 => ?_) (fun h9 => ?_))
  (repeat (first | refine Z4 ?_ | refine Z1 ?_ | refine CW.block ?_ | refine CW.ret ?_ | refine CW.skip ?_ | refine CW.exit ?_ | refine Z9 ?_ | refine Z8 ?_ | refine Z27 ?_ | refine Z15 ?_ | refine Z101 rfl ?_ | refine Z16 ?_))
  refine CW.drawsX ((some b4, blk cs 25) :: (some b3, blk (Slk.cells b (.ext o)) 96) :: N) [8] (fun w m => m.pick [0, 1] 3 rfl rfl) mixed (by kernel_rfl) (Z10 0 rfl (by kernel_rfl) rfl (Z30 rfl rfl rfl rfl) rfl (Z10 1 rfl (by kernel_rfl) rfl (Z29 rfl (List.Mem.tail _ Zh) rfl rfl rfl rfl) rfl (Z10 2 rfl (by kernel_rfl) rfl (Z22 rfl Zh rfl rfl rfl rfl hcl) rfl (Z11 3 rfl (by kernel_rfl) rfl Tryd.call84 rfl (fun N2 h2 => rlp_GetText_does w0 Φ N2 (fun w m => hΦ w ((h2 w m).drop 3)) cs it x e1 hit hx) rfl ?_))))
  rintro _ _ ⟨B, ob, c, r, o1, heb, rfl, rfl⟩
  refine Z10 4 rfl (by kernel_rfl) rfl (Z3 rfl) rfl (Z10 5 rfl (by kernel_rfl) rfl (Z17 rfl rfl) rfl (Z10 6 rfl (by kernel_rfl) rfl (Z17 rfl rfl) rfl (Z10 7 rfl (by kernel_rfl) rfl (RV.nilCheck rfl) rfl (Z19 (M' := (some b, blk l te) :: (some b4, blk cs 25) :: (some b3, blk (Slk.cells b (.ext o)) 96) :: (ob, blk (u8s x ++ r) 5) :: (B ++ N)) (fun w m => (m.sk1.sk2.sk3).pick [3, 1, 2, 0] 4 rfl rfl) (fun w m => (m.pick [1, 2] 4 rfl rfl : Mem w0 w ((some b4, blk cs 25) :: (some b3, blk (Slk.cells b (.ext o)) 96) :: (B ++ N))).sublist (List.Sublist.cons_cons _ (List.Sublist.cons_cons _ (List.sublist_append_right _ _)))) (XW.sv 8 rfl (by kernel_rfl) (SV.store rfl rfl rfl rfl rfl (by omega)) (fun w m => (m.pick [1, 2] 4 rfl rfl : Mem w0 w ((some b4, blk cs 25) :: (some b3, blk (Slk.cells b (.ext o)) 96) :: (B ++ N))).sublist (List.Sublist.cons_cons _ (List.Sublist.cons_cons _ (List.sublist_append_right _ _)))) (Z10 9 rfl (by kernel_rfl) rfl (Z5 rfl) rfl (XW.nil (by kernel_rfl) ?_)))))))
  have hmx := o1.mx
  have hvx := o1.view (te := 5) (w0 := w0) (Ψ := More w0 Φ ((ob, blk (u8s x ++ r) 5) :: B)) (by decide) (fun w q => q.2.sublist (List.singleton_sublist.2 (List.mem_cons_self ..)))
  have hst : (l.set o (sl ob 0 x.length c))[o]? = some (sl ob 0 x.length c) := List.getElem?_set_self (by omega)
  by_cases h1 : e1 = 0
  ·subst h1
   (repeat (first | refine Z4 ?_ | refine Z1 ?_ | refine CW.block ?_ | refine CW.ret ?_ | refine CW.skip ?_ | refine CW.exit ?_ | refine Z9 ?_ | refine Z8 ?_ | refine Z27 ?_ | refine Z15 ?_ | refine Z101 rfl ?_ | refine Z16 ?_))
   refine Z2 (Z0 (Z3 rfl) rfl (Z0 (RV.eql_t rfl rfl rfl) rfl (Z0 (Z3 rfl) rfl ?_)))
   (first | (refine Z24 rfl ?_; refine Z0 (Z30 rfl rfl rfl rfl) rfl ?_) | refine Z23 rfl rfl rfl ?_)
   (first | (refine Z24 rfl ?_; refine Z0 (Z29 rfl (List.Mem.tail _ (List.Mem.tail _ Zh)) rfl rfl rfl rfl) rfl ?_) | refine Z23 rfl rfl rfl ?_)
   (first | (refine Z24 rfl ?_; refine Z0 (RV.nilCheck rfl) rfl ?_) | refine Z23 rfl rfl rfl ?_)
   (first | (refine Z24 rfl ?_; refine Z0 (Z29 rfl Zh rfl rfl rfl hst) rfl ?_) | refine Z23 rfl rfl rfl ?_)
   (first | (refine Z24 rfl ?_; refine Z0 (RV.len rfl rfl) rfl ?_) | refine Z23 rfl rfl rfl ?_)
   (first | (refine Z24 rfl ?_; refine Z0 (RV.gtr rfl rfl) rfl ?_) | refine Z23 rfl rfl rfl ?_)
   (first | refine Z0 (Z108 rfl rfl rfl) rfl ?_ | refine Z0 (Z112 rfl rfl rfl) rfl ?_ | refine Z0 (RV.pick rfl rfl rfl) rfl ?_)
   refine Z6 ?_
   (repeat (first | refine Z4 ?_ | refine Z1 ?_ | refine CW.block ?_ | refine CW.ret ?_ | refine CW.skip ?_ | refine CW.exit ?_ | refine Z9 ?_ | refine Z8 ?_ | refine Z27 ?_ | refine Z15 ?_ | refine Z101 rfl ?_ | refine Z16 ?_))
   by_cases h2 : 32 < x.length
   ·rw [if_pos ⟨rfl, h2⟩]
    refine Z13 rfl (decide_eq_true (by omega)) ?_
    (repeat (first | refine Z4 ?_ | refine Z1 ?_ | refine CW.block ?_ | refine CW.ret ?_ | refine CW.skip ?_ | refine CW.exit ?_ | refine Z9 ?_ | refine Z8 ?_ | refine Z27 ?_ | refine Z15 ?_ | refine Z101 rfl ?_ | refine Z16 ?_))
    refine Z2 (Z0 (Z5 rfl) rfl (Z6 ?_))
    (repeat (first | refine Z4 ?_ | refine Z1 ?_ | refine CW.block ?_ | refine CW.ret ?_ | refine CW.skip ?_ | refine CW.exit ?_ | refine Z9 ?_ | refine Z8 ?_ | refine Z27 ?_ | refine Z15 ?_ | refine Z101 rfl ?_ | refine Z16 ?_))
    refine Z110 (rs := [.tmp 6]) [.int .i64 192] ((some b, blk (l.set o (sl ob 0 x.length c)) te) :: (ob, blk (u8s x ++ r) 5) :: B) rfl ⟨rfl, trivial⟩ rfl ⟨_, _, by omega, rfl, rfl, _, _, rfl, hvx.mono (fun w q => q)⟩ (fun w m => m.pick [0, 3] 4 rfl rfl) _ (.inl rfl)
   ·rw [if_neg (fun h => h2 h.2)]
    refine Z14 rfl (decide_eq_false (by omega)) ?_
    (repeat (first | refine Z4 ?_ | refine Z1 ?_ | refine CW.block ?_ | refine CW.ret ?_ | refine CW.skip ?_ | refine CW.exit ?_ | refine Z9 ?_ | refine Z8 ?_ | refine Z27 ?_ | refine Z15 ?_ | refine Z101 rfl ?_ | refine Z16 ?_))
    refine Z2 (Z0 (Z3 rfl) rfl (Z0 (Z5 rfl) rfl (Z6 ?_)))
    (repeat (first | refine Z4 ?_ | refine Z1 ?_ | refine CW.block ?_ | refine CW.ret ?_ | refine CW.skip ?_ | refine CW.exit ?_ | refine Z9 ?_ | refine Z8 ?_ | refine Z27 ?_ | refine Z15 ?_ | refine Z101 rfl ?_ | refine Z16 ?_))
    refine Z110 (rs := [.tmp 6]) [.int .i64 ((0 : Nat) : Int)] ((some b, blk (l.set o (sl ob 0 x.length c)) te) :: (ob, blk (u8s x ++ r) 5) :: B) rfl ⟨rfl, trivial⟩ rfl ⟨_, _, by omega, rfl, rfl, _, _, rfl, hvx.mono (fun w q => q)⟩ (fun w m => m.pick [0, 3] 4 rfl rfl) _ (.inl rfl)
  ·rw [if_neg (fun h => h1 h.1)]
   (repeat (first | refine Z4 ?_ | refine Z1 ?_ | refine CW.block ?_ | refine CW.ret ?_ | refine CW.skip ?_ | refine CW.exit ?_ | refine Z9 ?_ | refine Z8 ?_ | refine Z27 ?_ | refine Z15 ?_ | refine Z101 rfl ?_ | refine Z16 ?_))
   refine Z2 (Z0 (Z3 rfl) rfl (Z0 (RV.eql_f rfl rfl (by omega)) rfl (Z0 (Z3 rfl) rfl ?_)))
   (first | (refine Z24 rfl ?_; refine Z0 (Z30 rfl rfl rfl rfl) rfl ?_) | refine Z23 rfl rfl rfl ?_)
   (first | (refine Z24 rfl ?_; (first | refine Z0 (Z29 rfl (by (repeat (first | exact List.Mem.head _ | assumption | refine List.Mem.tail _ ?_)); done) (by first | rfl | assumption) rfl rfl (by first | rfl | assumption)) rfl ?_ | refine Z0 (Z21 rfl rfl rfl (by (repeat (first | assumption | refine Mem.Says.cons ?_)); done)) rfl ?_)) | refine Z23 rfl rfl rfl ?_)
   (first | (refine Z24 rfl ?_; refine Z0 (RV.nilCheck rfl) rfl ?_) | refine Z23 rfl rfl rfl ?_)
   (first | (refine Z24 rfl ?_; (first | refine Z0 (Z29 rfl (by (repeat (first | exact List.Mem.head _ | assumption | refine List.Mem.tail _ ?_)); done) (by first | rfl | assumption) rfl rfl (by first | rfl | assumption)) rfl ?_ | refine Z0 (Z21 rfl rfl rfl (by (repeat (first | assumption | refine Mem.Says.cons ?_)); done)) rfl ?_)) | refine Z23 rfl rfl rfl ?_)
   (first | (refine Z24 rfl ?_; refine Z0 (RV.len rfl rfl) rfl ?_) | refine Z23 rfl rfl rfl ?_)
   (first | (refine Z24 rfl ?_; refine Z0 (RV.gtr rfl rfl) rfl ?_) | refine Z23 rfl rfl rfl ?_)
   (first | refine Z0 (Z108 rfl rfl rfl) rfl ?_ | refine Z0 (Z112 rfl rfl rfl) rfl ?_ | refine Z0 (RV.pick rfl rfl rfl) rfl ?_)
   refine Z6 ?_
   (repeat (first | refine Z4 ?_ | refine Z1 ?_ | refine CW.block ?_ | refine CW.ret ?_ | refine CW.skip ?_ | refine CW.exit ?_ | refine Z9 ?_ | refine Z8 ?_ | refine Z27 ?_ | refine Z15 ?_ | refine Z101 rfl ?_ | refine Z16 ?_))
   (first | refine Z113 rfl ?_ | refine Z115 rfl ?_ | refine Z114 rfl (fun h9 => ?_) (fun h9 => ?_) | refine Z111 rfl (fun h9 => ?_) (fun h9 => ?_) | refine CW.cond rfl (fun h9 => ?_) (fun h9 => ?_))
   (repeat (first | refine Z4 ?_ | refine Z1 ?_ | refine CW.block ?_ | refine CW.ret ?_ | refine CW.skip ?_ | refine CW.exit ?_ | refine Z9 ?_ | refine Z8 ?_ | refine Z27 ?_ | refine Z15 ?_ | refine Z101 rfl ?_ | refine Z16 ?_))
   refine Z2 (Z0 (Z3 rfl) rfl (Z0 (Z5 rfl) rfl (Z6 ?_)))
   (repeat (first | refine Z4 ?_ | refine Z1 ?_ | refine CW.block ?_ | refine CW.ret ?_ | refine CW.skip ?_ | refine CW.exit ?_ | refine Z9 ?_ | refine Z8 ?_ | refine Z27 ?_ | refine Z15 ?_ | refine Z101 rfl ?_ | refine Z16 ?_))
   refine Z110 (rs := [.tmp 6]) [.int .i64 (e1 : Int)] ((some b, blk (l.set o (sl ob 0 x.length c)) te) :: (ob, blk (u8s x ++ r) 5) :: B) rfl ⟨rfl, trivial⟩ rfl ⟨_, _, heb, rfl, rfl, _, _, rfl, hvx.mono (fun w q => q)⟩ (fun w m => m.pick [0, 3] 4 rfl rfl) _ (.inl rfl)
theorem zhdr_one {A : Option Addr} {c : Nat} {h : Hdr} : ∀ u ∈ (h.C A c).C, u.oneCell' = true := HdrC.C_one _ rfl
theorem Z137 {A : Option Addr} {c : Nat} {h : Hdr} : (h.C A c).C.length = 588 := HdrC.C_length _
theorem zhdr_cells : i38.z.cells = ((Hdr.zero.C none 0).C).toArray := by kernel_rfl
theorem header_Parse_does (w0 : World) (Φ : Ctx) (N : List Ent) (hΦ : ∀ w, Mem w0 w N → Φ w) (cs0_ : List Value) (a0 : It) (res0 : Hdr) (res1 : Nat) (ha0 : ItRd Φ cs0_ a0) (hg0 : View Φ (some ⟨0, 0, none⟩) 21 21 1 (i64s fieldsL)) (hf : header_Parse a0 = some (res0, res1)) : DoesG Tryd.prog 16 [.agg cs0_.toArray] w0 [] N (fun v G => ∃ B : List Ent, ∃ cr0 : List Value, (HdrRd (More w0 Φ B) cr0 res0) ∧ (res1 ≤ 9223372036854775807) ∧ v = .tuple #[.agg cr0.toArray, .int .i64 ((res1 : Nat) : Int)] ∧ G = B) := by
 unfold header_Parse at hf
 obtain ⟨⟨its, e⟩, he, hf⟩ := Option.bind_eq_some_iff.1 hf
 dsimp only at hf
 have hcl := ItRd.len _ _ ha0
 have hzero : ∀ Ψ, HdrRd Ψ (Hdr.zero.C none 0).C Hdr.zero := fun Ψ => ⟨none, 0, rfl, View.nil, by decide, by decide⟩
 refine DoesG.enter Tryd.func16 rfl Tryd.ntmps16 rfl (M := N) rfl ?_
 (repeat (first | refine Z4 ?_ | refine Z1 ?_ | refine CW.block ?_ | refine CW.ret ?_ | refine CW.skip ?_ | refine CW.exit ?_ | refine Z9 ?_ | refine Z8 ?_ | refine Z27 ?_ | refine Z15 ?_ | refine Z101 rfl ?_ | refine Z16 ?_))
 refine Z2 (OW.boxA rfl rfl (fun b1 => (OW.alloc (l := (Hdr.zero.C none 0).C) rfl zhdr_cells rfl (fun b2 => (Z0 (Z5 rfl) rfl (Z6 ?_))))))
 (repeat (first | refine Z4 ?_ | refine Z1 ?_ | refine CW.block ?_ | refine CW.ret ?_ | refine CW.skip ?_ | refine CW.exit ?_ | refine Z9 ?_ | refine Z8 ?_ | refine Z27 ?_ | refine Z15 ?_ | refine Z101 rfl ?_ | refine Z16 ?_))
 refine CW.scope0 ?_
 (repeat (first | refine Z4 ?_ | refine Z1 ?_ | refine CW.block ?_ | refine CW.ret ?_ | refine CW.skip ?_ | refine CW.exit ?_ | refine Z9 ?_ | refine Z8 ?_ | refine Z27 ?_ | refine Z15 ?_ | refine Z101 rfl ?_ | refine Z16 ?_))
 refine Z2 (Z0 (Z22 rfl (List.Mem.tail _ Zh) rfl rfl rfl rfl hcl) rfl ?_)
 refine Z12 Tryd.call42 rfl (rlp_GetList_does w0 Φ ((some b2, blk (Hdr.zero.C none 0).C 38) :: (some b1, blk cs0_ 25) :: N) (fun w m => hΦ w (m.drop 2)) cs0_ a0 its e ha0 he) rfl rfl ?_; rintro _ _ ⟨B0, cr, oi, ci, ri, hri, oo, heb, rfl, rfl⟩; refine Z20 (M' := (some b2, blk (Hdr.zero.C none 0).C 38) :: (((oi, blk (cr ++ ri) 25) :: B0) ++ N)) (fun w m => (m.sk1.sk2).pick [1, 0] 3 rfl rfl) ?_
 refine Z0 (Z3 rfl) rfl (Z0 (Z17 rfl rfl) rfl (Z0 (Z17 rfl rfl) rfl (Z0 (Z5 rfl) rfl (Z0 (Z5 rfl) rfl (Z6 ?_)))))
 (repeat (first | refine Z4 ?_ | refine Z1 ?_ | refine CW.block ?_ | refine CW.ret ?_ | refine CW.skip ?_ | refine CW.exit ?_ | refine Z9 ?_ | refine Z8 ?_ | refine Z27 ?_ | refine Z15 ?_ | refine Z101 rfl ?_ | refine Z16 ?_))
 by_cases h1 : e = 0
 case neg =>
  rw [if_neg h1] at hf
  obtain ⟨rfl, rfl⟩ := Prod.mk.inj (Zi hf)
  (repeat (first | refine Z4 ?_ | refine Z1 ?_ | refine CW.block ?_ | refine CW.ret ?_ | refine CW.skip ?_ | refine CW.exit ?_ | refine Z9 ?_ | refine Z8 ?_ | refine Z27 ?_ | refine Z15 ?_ | refine Z101 rfl ?_ | refine Z16 ?_))
  refine Z2 (Z0 (Z3 rfl) rfl (Z0 (RV.neq_t rfl rfl (by omega)) rfl (Z6 ?_)))
  (repeat (first | refine Z4 ?_ | refine Z1 ?_ | refine CW.block ?_ | refine CW.ret ?_ | refine CW.skip ?_ | refine CW.exit ?_ | refine Z9 ?_ | refine Z8 ?_ | refine Z27 ?_ | refine Z15 ?_ | refine Z101 rfl ?_ | refine Z16 ?_))
  (first | refine Z113 rfl ?_ | refine Z115 rfl ?_ | refine Z114 rfl (fun h9 => ?_) (fun h9 => ?_) | refine Z111 rfl (fun h9 => ?_) (fun h9 => ?_) | refine CW.cond rfl (fun h9 => ?_) (fun h9 => ?_))
  (repeat (first | refine Z4 ?_ | refine Z1 ?_ | refine CW.block ?_ | refine CW.ret ?_ | refine CW.skip ?_ | refine CW.exit ?_ | refine Z9 ?_ | refine Z8 ?_ | refine Z27 ?_ | refine Z15 ?_ | refine Z101 rfl ?_ | refine Z16 ?_))
  refine Z2 (Z0 (Z117 (l := (Hdr.zero.C none 0).C) (cs := (Hdr.zero.C none 0).C) [] rfl rfl rfl zhdr_cells rfl rfl rfl) rfl (Z0 (Z3 rfl) rfl (Z28 (Z107 rfl rfl rfl zhdr_one rfl Z137 Z137) (Z0 (Z5 rfl) rfl (Z6 ?_)))))
  (repeat (first | refine Z4 ?_ | refine Z1 ?_ | refine CW.block ?_ | refine CW.ret ?_ | refine CW.skip ?_ | refine CW.exit ?_ | refine Z9 ?_ | refine Z8 ?_ | refine Z27 ?_ | refine Z15 ?_ | refine Z101 rfl ?_ | refine Z16 ?_))
  refine QW.scope_r ?_
  refine Z110 (rs := [.cell 2 38, .tmp 3]) [.agg ((Hdr.zero.C none 0).C).toArray, .int .i64 (e : Int)] ((some b2, blk (Hdr.zero.C none 0).C 38) :: []) rfl ?_ rfl ?_ ?_ _ (.inl rfl)
  ·exact ⟨⟨_, _, _, _, rfl, Zh, rfl, rfl, (by rw [Z137]; rfl), rfl⟩, rfl, trivial⟩
  ·exact ⟨_, _, hzero _, heb, rfl, rfl⟩
  ·exact fun w m => m.pick [0] 1 rfl rfl |>.sublist (List.Sublist.cons_cons _ (List.sublist_append_right _ _))
 subst h1
 rw [if_pos rfl] at hf
 obtain ⟨t, ht, hf⟩ := Option.bind_eq_some_iff.1 hf
 have hmi := oo.mx
 (repeat (first | refine Z4 ?_ | refine Z1 ?_ | refine CW.block ?_ | refine CW.ret ?_ | refine CW.skip ?_ | refine CW.exit ?_ | refine Z9 ?_ | refine Z8 ?_ | refine Z27 ?_ | refine Z15 ?_ | refine Z101 rfl ?_ | refine Z16 ?_))
 refine Z2 (Z0 (Z3 rfl) rfl (Z0 (RV.neq_f rfl rfl (by omega)) rfl (Z6 ?_)))
 (repeat (first | refine Z4 ?_ | refine Z1 ?_ | refine CW.block ?_ | refine CW.ret ?_ | refine CW.skip ?_ | refine CW.exit ?_ | refine Z9 ?_ | refine Z8 ?_ | refine Z27 ?_ | refine Z15 ?_ | refine Z101 rfl ?_ | refine Z16 ?_))
 (first | refine Z113 rfl ?_ | refine Z115 rfl ?_ | refine Z114 rfl (fun h9 => ?_) (fun h9 => ?_) | refine Z111 rfl (fun h9 => ?_) (fun h9 => ?_) | refine CW.cond rfl (fun h9 => ?_) (fun h9 => ?_))
 (repeat (first | refine Z4 ?_ | refine Z1 ?_ | refine CW.block ?_ | refine CW.ret ?_ | refine CW.skip ?_ | refine CW.exit ?_ | refine Z9 ?_ | refine Z8 ?_ | refine Z27 ?_ | refine Z15 ?_ | refine Z101 rfl ?_ | refine Z16 ?_))
 refine Z2 (Z0 (Z3 rfl) rfl (Z0 (RV.len rfl rfl) rfl ?_))
 refine Z12 Tryd.call43 rfl (header_tailOf_does w0 (fun _ => True) ((some b2, blk (Hdr.zero.C none 0).C 38) :: (((oi, blk (cr ++ ri) 25) :: B0) ++ N)) (fun _ _ => trivial) _ t (by omega) ht) rfl rfl ?_; rintro _ G1 ⟨htb, rfl⟩; refine Z20 (M' := (some b2, blk (Hdr.zero.C none 0).C 38) :: (((oi, blk (cr ++ ri) 25) :: B0) ++ N)) (fun w m => m.appR) ?_
 refine Z0 (Z117 (l := (Hdr.zero.C none 0).C) (cs := (({ Hdr.zero with tail := t } : Hdr).C none 0).C) [(15, [.int .i64 t])] rfl rfl rfl zhdr_cells rfl rfl (fillL_one rfl (by rw [Z137]; decide) (HdrC.C_tail_set _ t))) rfl ?_
 refine OW.alloc (l := (Hdr.zero.C none 0).C) rfl zhdr_cells rfl (fun b6 => (Z28 (Z107 rfl rfl rfl zhdr_one rfl Z137 Z137) (Z6 ?_)))
 (repeat (first | refine Z4 ?_ | refine Z1 ?_ | refine CW.block ?_ | refine CW.ret ?_ | refine CW.skip ?_ | refine CW.exit ?_ | refine Z9 ?_ | refine Z8 ?_ | refine Z27 ?_ | refine Z15 ?_ | refine Z101 rfl ?_ | refine Z16 ?_))
 have hvi : View (More w0 Φ ((oi, blk (cr ++ ri) 25) :: B0)) (oi.map fun k => ⟨k, 0, none⟩) its.length ci 3 cr := oo.view (te := 25) (w0 := w0) (by decide) (fun w q => q.2.sublist (List.singleton_sublist.2 (List.mem_cons_self ..)))
 replace hri := hri.mono (ItRd.mono (Ψ := More w0 Φ ((oi, blk (cr ++ ri) 25) :: B0)) (fun w q => ⟨q.1, q.2.tail⟩))
 have htl : ((({ Hdr.zero with tail := t } : Hdr).C none 0).C)[485]? = some (.int .i64 t) := HdrC.C_tail _
 by_cases h2 : t < 0
 ·rw [if_pos h2] at hf
  obtain ⟨rfl, rfl⟩ := Prod.mk.inj (Zi hf)
  (repeat (first | refine Z4 ?_ | refine Z1 ?_ | refine CW.block ?_ | refine CW.ret ?_ | refine CW.skip ?_ | refine CW.exit ?_ | refine Z9 ?_ | refine Z8 ?_ | refine Z27 ?_ | refine Z15 ?_ | refine Z101 rfl ?_ | refine Z16 ?_))
  refine Z2 (Z0 (Z30 rfl rfl rfl rfl) rfl (Z0 (Z29 rfl Zh rfl rfl rfl htl) rfl (Z0 (RV.lss_t rfl rfl h2) rfl (Z6 ?_))))
  (repeat (first | refine Z4 ?_ | refine Z1 ?_ | refine CW.block ?_ | refine CW.ret ?_ | refine CW.skip ?_ | refine CW.exit ?_ | refine Z9 ?_ | refine Z8 ?_ | refine Z27 ?_ | refine Z15 ?_ | refine Z101 rfl ?_ | refine Z16 ?_))
  (first | refine Z113 rfl ?_ | refine Z115 rfl ?_ | refine Z114 rfl (fun h9 => ?_) (fun h9 => ?_) | refine Z111 rfl (fun h9 => ?_) (fun h9 => ?_) | refine CW.cond rfl (fun h9 => ?_) (fun h9 => ?_))
  (repeat (first | refine Z4 ?_ | refine Z1 ?_ | refine CW.block ?_ | refine CW.ret ?_ | refine CW.skip ?_ | refine CW.exit ?_ | refine Z9 ?_ | refine Z8 ?_ | refine Z27 ?_ | refine Z15 ?_ | refine Z101 rfl ?_ | refine Z16 ?_))
  refine Z2 ?_
  refine Z0 (Z117 (l := (Hdr.zero.C none 0).C) (cs := (Hdr.zero.C none 0).C) [] rfl rfl rfl zhdr_cells rfl rfl rfl) rfl ?_; refine OW.rot1 ?_
  refine Z28 (Z107 rfl rfl rfl zhdr_one rfl Z137 Z137) (Z0 (Z5 rfl) rfl (Z6 ?_))
  (repeat (first | refine Z4 ?_ | refine Z1 ?_ | refine CW.block ?_ | refine CW.ret ?_ | refine CW.skip ?_ | refine CW.exit ?_ | refine Z9 ?_ | refine Z8 ?_ | refine Z27 ?_ | refine Z15 ?_ | refine Z101 rfl ?_ | refine Z16 ?_))
  refine QW.scope_r ?_
  refine Z110 (rs := [.cell 2 38, .tmp 3]) [.agg ((Hdr.zero.C none 0).C).toArray, .int .i64 190] ((some b2, blk (Hdr.zero.C none 0).C 38) :: []) rfl ?_ rfl ?_ ?_ _ (.inl rfl)
  ·exact ⟨⟨_, _, _, _, rfl, Zh, rfl, rfl, (by rw [Z137]; rfl), rfl⟩, rfl, trivial⟩
  ·exact ⟨_, _, hzero _, by omega, rfl, rfl⟩
  ·exact fun w m => (m.pick [0] 2 rfl rfl : Mem w0 w ((some b2, blk (Hdr.zero.C none 0).C 38) :: (((oi, blk (cr ++ ri) 25) :: B0) ++ N))).sublist (List.Sublist.cons_cons _ (List.sublist_append_right _ _))
 rw [if_neg h2] at hf
 have hn21 := tailOf_le ht h2
 obtain ⟨⟨h3, e3⟩, hp, hf⟩ := Option.bind_eq_some_iff.1 hf
 dsimp only at hf
 (repeat (first | refine Z4 ?_ | refine Z1 ?_ | refine CW.block ?_ | refine CW.ret ?_ | refine CW.skip ?_ | refine CW.exit ?_ | refine Z9 ?_ | refine Z8 ?_ | refine Z27 ?_ | refine Z15 ?_ | refine Z101 rfl ?_ | refine Z16 ?_))
 refine Z2 (Z0 (Z30 rfl rfl rfl rfl) rfl (Z0 (Z29 rfl Zh rfl rfl rfl htl) rfl (Z0 (RV.lss_f rfl rfl h2) rfl (Z6 ?_))))
 (repeat (first | refine Z4 ?_ | refine Z1 ?_ | refine CW.block ?_ | refine CW.ret ?_ | refine CW.skip ?_ | refine CW.exit ?_ | refine Z9 ?_ | refine Z8 ?_ | refine Z27 ?_ | refine Z15 ?_ | refine Z101 rfl ?_ | refine Z16 ?_))
 (first | refine Z113 rfl ?_ | refine Z115 rfl ?_ | refine Z114 rfl (fun h9 => ?_) (fun h9 => ?_) | refine Z111 rfl (fun h9 => ?_) (fun h9 => ?_) | refine CW.cond rfl (fun h9 => ?_) (fun h9 => ?_))
 (repeat (first | refine Z4 ?_ | refine Z1 ?_ | refine CW.block ?_ | refine CW.ret ?_ | refine CW.skip ?_ | refine CW.exit ?_ | refine Z9 ?_ | refine Z8 ?_ | refine Z27 ?_ | refine Z15 ?_ | refine Z101 rfl ?_ | refine Z16 ?_))
 refine Z2 (Z0 (Z5 rfl) rfl (Z6 ?_))
 (repeat (first | refine Z4 ?_ | refine Z1 ?_ | refine CW.block ?_ | refine CW.ret ?_ | refine CW.skip ?_ | refine CW.exit ?_ | refine Z9 ?_ | refine Z8 ?_ | refine Z27 ?_ | refine Z15 ?_ | refine Z101 rfl ?_ | refine Z16 ?_))
 refine CW.label ?_
 (repeat (first | refine Z4 ?_ | refine Z1 ?_ | refine CW.block ?_ | refine CW.ret ?_ | refine CW.skip ?_ | refine CW.exit ?_ | refine Z9 ?_ | refine Z8 ?_ | refine Z27 ?_ | refine Z15 ?_ | refine Z101 rfl ?_ | refine Z16 ?_))
 refine Z2 ?_
 refine Z12 Tryd.call44 rfl (header_slots_does w0 ((some b6, blk (({ Hdr.zero with tail := t } : Hdr).C none 0).C 38) :: (some b2, blk (Hdr.zero.C none 0).C 38) :: (((oi, blk (cr ++ ri) 25) :: B0) ++ N)) b6) rfl rfl ?_; rintro _ G2 ⟨_, rfl, rfl⟩; refine Z20 (M' := (some b6, blk (({ Hdr.zero with tail := t } : Hdr).C none 0).C 38) :: (some b2, blk (Hdr.zero.C none 0).C 38) :: (((oi, blk (cr ++ ri) 25) :: B0) ++ N)) (fun w m => m.appR) ?_
 refine Z0 (Z3 rfl) rfl (Z6 (Z1 ?_))
 refine Z130 (fun L' M' => ∃ (A : Option Addr) (c : Nat) (Bx : List Ent), h3.tail = t ∧ e3 ≤ 9223372036854775807 ∧ View (More w0 Φ Bx) A h3.extra.length c 1 (u8s h3.extra) ∧ L' = [(2, ptr (some b2) 0), (5, .int .i64 (e3 : Int)), (6, ptr (some b6) 0)] ∧ M' = (some b6, blk (h3.C A c).C 38) :: (some b2, blk (Hdr.zero.C none 0).C 38) :: (Bx ++ N)) ?_ ?_
 ·rintro L7 M7 ⟨A, c, Bx, ht3, hb3, hv3, rfl, rfl⟩
  by_cases h4 : e3 = 0
  ·subst h4
   rw [if_pos rfl] at hf
   obtain ⟨rfl, rfl⟩ := Prod.mk.inj (Zi hf)
   (repeat (first | refine Z4 ?_ | refine Z1 ?_ | refine CW.block ?_ | refine CW.ret ?_ | refine CW.skip ?_ | refine CW.exit ?_ | refine Z9 ?_ | refine Z8 ?_ | refine Z27 ?_ | refine Z15 ?_ | refine Z101 rfl ?_ | refine Z16 ?_))
   refine Z2 (Z0 (Z3 rfl) rfl (Z0 (RV.neq_f rfl rfl (by omega)) rfl (Z6 ?_)))
   (repeat (first | refine Z4 ?_ | refine Z1 ?_ | refine CW.block ?_ | refine CW.ret ?_ | refine CW.skip ?_ | refine CW.exit ?_ | refine Z9 ?_ | refine Z8 ?_ | refine Z27 ?_ | refine Z15 ?_ | refine Z101 rfl ?_ | refine Z16 ?_))
   (first | refine Z113 rfl ?_ | refine Z115 rfl ?_ | refine Z114 rfl (fun h9 => ?_) (fun h9 => ?_) | refine Z111 rfl (fun h9 => ?_) (fun h9 => ?_) | refine CW.cond rfl (fun h9 => ?_) (fun h9 => ?_))
   (repeat (first | refine Z4 ?_ | refine Z1 ?_ | refine CW.block ?_ | refine CW.ret ?_ | refine CW.skip ?_ | refine CW.exit ?_ | refine Z9 ?_ | refine Z8 ?_ | refine Z27 ?_ | refine Z15 ?_ | refine Z101 rfl ?_ | refine Z16 ?_))
   refine Z2 ?_
   refine Z0 (Z22 rfl Zh rfl rfl rfl rfl Z137) rfl ?_; refine OW.rot1 ?_
   refine Z28 (Z107 rfl rfl rfl zhdr_one rfl Z137 Z137) (Z0 (Z5 rfl) rfl (Z6 ?_))
   (repeat (first | refine Z4 ?_ | refine Z1 ?_ | refine CW.block ?_ | refine CW.ret ?_ | refine CW.skip ?_ | refine CW.exit ?_ | refine Z9 ?_ | refine Z8 ?_ | refine Z27 ?_ | refine Z15 ?_ | refine Z101 rfl ?_ | refine Z16 ?_))
   refine QW.scope_r ?_
   refine Z110 (rs := [.cell 2 38, .tmp 3]) [.agg ((h3.C A c).C).toArray, .int .i64 ((0 : Nat) : Int)] ((some b2, blk (h3.C A c).C 38) :: Bx) rfl ?_ rfl ?_ ?_ _ (.inl rfl)
   ·exact ⟨⟨_, _, _, _, rfl, Zh, rfl, rfl, (by rw [Z137]; rfl), rfl⟩, rfl, trivial⟩
   ·exact ⟨_, _, ⟨A, c, rfl, hv3.mono (fun w q => ⟨q.1, q.2.tail⟩), by rw [ht3]; exact htb⟩, by omega, rfl, rfl⟩
   ·exact fun w m => m.pick [0] 2 rfl rfl
  ·rw [if_neg h4] at hf
   obtain ⟨rfl, rfl⟩ := Prod.mk.inj (Zi hf)
   (repeat (first | refine Z4 ?_ | refine Z1 ?_ | refine CW.block ?_ | refine CW.ret ?_ | refine CW.skip ?_ | refine CW.exit ?_ | refine Z9 ?_ | refine Z8 ?_ | refine Z27 ?_ | refine Z15 ?_ | refine Z101 rfl ?_ | refine Z16 ?_))
   refine Z2 (Z0 (Z3 rfl) rfl (Z0 (RV.neq_t rfl rfl (by omega)) rfl (Z6 ?_)))
   (repeat (first | refine Z4 ?_ | refine Z1 ?_ | refine CW.block ?_ | refine CW.ret ?_ | refine CW.skip ?_ | refine CW.exit ?_ | refine Z9 ?_ | refine Z8 ?_ | refine Z27 ?_ | refine Z15 ?_ | refine Z101 rfl ?_ | refine Z16 ?_))
   (first | refine Z113 rfl ?_ | refine Z115 rfl ?_ | refine Z114 rfl (fun h9 => ?_) (fun h9 => ?_) | refine Z111 rfl (fun h9 => ?_) (fun h9 => ?_) | refine CW.cond rfl (fun h9 => ?_) (fun h9 => ?_))
   (repeat (first | refine Z4 ?_ | refine Z1 ?_ | refine CW.block ?_ | refine CW.ret ?_ | refine CW.skip ?_ | refine CW.exit ?_ | refine Z9 ?_ | refine Z8 ?_ | refine Z27 ?_ | refine Z15 ?_ | refine Z101 rfl ?_ | refine Z16 ?_))
   refine Z2 ?_
   refine Z0 (Z117 (l := (Hdr.zero.C none 0).C) (cs := (Hdr.zero.C none 0).C) [] rfl rfl rfl zhdr_cells rfl rfl rfl) rfl ?_; refine OW.rot1 ?_
   refine Z0 (Z3 rfl) rfl (Z28 (Z107 rfl rfl rfl zhdr_one rfl Z137 Z137) (Z0 (Z5 rfl) rfl (Z6 ?_)))
   (repeat (first | refine Z4 ?_ | refine Z1 ?_ | refine CW.block ?_ | refine CW.ret ?_ | refine CW.skip ?_ | refine CW.exit ?_ | refine Z9 ?_ | refine Z8 ?_ | refine Z27 ?_ | refine Z15 ?_ | refine Z101 rfl ?_ | refine Z16 ?_))
   refine QW.scope_r ?_
   refine Z110 (rs := [.cell 2 38, .tmp 3]) [.agg ((Hdr.zero.C none 0).C).toArray, .int .i64 (e3 : Int)] ((some b2, blk (Hdr.zero.C none 0).C 38) :: []) rfl ?_ rfl ?_ ?_ _ (.inl rfl)
   ·exact ⟨⟨_, _, _, _, rfl, Zh, rfl, rfl, (by rw [Z137]; rfl), rfl⟩, rfl, trivial⟩
   ·exact ⟨_, _, hzero _, hb3, rfl, rfl⟩
   ·exact fun w m => (m.pick [0] 2 rfl rfl : Mem w0 w ((some b2, blk (Hdr.zero.C none 0).C 38) :: (Bx ++ N))).sublist (List.Sublist.cons_cons _ (List.sublist_append_right _ _))
 ·refine CW.block ?_
  refine Z139 (fun k L' M' => ∃ (i : Nat) (hh : Hdr) (e : Nat) (A : Option Addr) (c : Nat) (Bx : List Ent), k = 21 - i ∧ i ≤ 21 ∧ e ≤ 9223372036854775807 ∧ ((e = 0 ∧ i ≤ its.length ∧ parseL i (its.drop i) hh = some (h3, e3)) ∨ (e ≠ 0 ∧ hh = h3 ∧ e = e3)) ∧ hh.tail = t ∧ (∀ w, Mem w0 w Bx → Mem w0 w ((oi, blk (cr ++ ri) 25) :: B0)) ∧ View (More w0 Φ Bx) A hh.extra.length c 1 (u8s hh.extra) ∧
   L' = [(2, ptr (some b2) 0), (4, sl oi 0 its.length ci), (5, .int .i64 (e : Int)), (6, ptr (some b6) 0), (26, .agg (slotC b6).toArray), (27, .int .i64 (i : Int))] ∧ M' = (some b6, blk (hh.C A c).C 38) :: (some b2, blk (Hdr.zero.C none 0).C 38) :: (Bx ++ N)) (k0 := 21)
   ⟨0, _, 0, none, 0, (oi, blk (cr ++ ri) 25) :: B0, rfl, by omega, by omega, .inl ⟨rfl, by omega, hp⟩, rfl, (fun w m => m), View.nil, rfl, rfl⟩ ⟨rfl, rfl, rfl, rfl, rfl, rfl, trivial⟩ (fun w m => m) ?_
  rintro k L' M' ⟨i, hh, e, A, c, Bx, rfl, hi, heb2, hst, htt, hB, hvx, rfl, rfl⟩
  (repeat (first | refine Z4 ?_ | refine Z1 ?_ | refine CW.block ?_ | refine CW.ret ?_ | refine CW.skip ?_ | refine CW.exit ?_ | refine Z9 ?_ | refine Z8 ?_ | refine Z27 ?_ | refine Z15 ?_ | refine Z101 rfl ?_ | refine Z16 ?_))
  refine Z2 (Z0 (RV.lss rfl rfl) rfl (Z6 ?_))
  (repeat (first | refine Z4 ?_ | refine Z1 ?_ | refine CW.block ?_ | refine CW.ret ?_ | refine CW.skip ?_ | refine CW.exit ?_ | refine Z9 ?_ | refine Z8 ?_ | refine Z27 ?_ | refine Z15 ?_ | refine Z101 rfl ?_ | refine Z16 ?_))
  by_cases hlt : i < 21
  ·refine Z13 rfl (decide_eq_true (by omega)) ?_
   obtain ⟨s, hs⟩ : ∃ s, slotL[i]? = some s := ⟨_, List.getElem?_eq_getElem (show i < slotL.length from hlt)⟩
   have hsl := slot_le hs
   have hsw := slot_width hs
   (repeat (first | refine Z4 ?_ | refine Z1 ?_ | refine CW.block ?_ | refine CW.ret ?_ | refine CW.skip ?_ | refine CW.exit ?_ | refine Z9 ?_ | refine Z8 ?_ | refine Z27 ?_ | refine Z15 ?_ | refine Z101 rfl ?_ | refine Z16 ?_))
   refine Z2 (Z0 (Z3 rfl) rfl (Z0 (RV.indexVs i rfl rfl rfl rfl rfl rfl rfl (by omega) (slotC_part b6 i hs)) rfl (OW.alloc rfl rfl rfl (fun b8 => (Z0 (Z5 rfl) rfl (Z28 (Z107 rfl rfl rfl (Slk.cells_one b6 s) rfl rfl (Z135 b6 s)) (Z6 ?_)))))))
   (repeat (first | refine Z4 ?_ | refine Z1 ?_ | refine CW.block ?_ | refine CW.ret ?_ | refine CW.skip ?_ | refine CW.exit ?_ | refine Z9 ?_ | refine Z8 ?_ | refine Z27 ?_ | refine Z15 ?_ | refine Z101 rfl ?_ | refine Z16 ?_))
   refine Z2 (Z0 (Z3 rfl) rfl (Z0 (Z3 rfl) rfl (Z0 (RV.len rfl rfl) rfl (Z0 (RV.eql rfl rfl) rfl (Z0 (Z5 rfl) rfl (Z6 ?_))))))
   (repeat (first | refine Z4 ?_ | refine Z1 ?_ | refine CW.block ?_ | refine CW.ret ?_ | refine CW.skip ?_ | refine CW.exit ?_ | refine Z9 ?_ | refine Z8 ?_ | refine Z27 ?_ | refine Z15 ?_ | refine Z101 rfl ?_ | refine Z16 ?_))
   by_cases hil : i = its.length
   ·refine Z13 rfl (decide_eq_true (by omega)) (CW.exit ?_)
    (repeat (first | refine Z9 ?_ | refine Z15 ?_ | refine Z101 rfl ?_))
    have hfin : hh = h3 ∧ e = e3 := by
     rcases hst with ⟨rfl, _, hq⟩ | ⟨_, h5, h6⟩
     ·rw [List.drop_of_length_le (by omega), parseL] at hq
      obtain ⟨rfl, rfl⟩ := Prod.mk.inj (Zi hq)
      exact ⟨rfl, rfl⟩
     ·exact ⟨h5, h6⟩
    obtain ⟨rfl, rfl⟩ := hfin
    exact QW.join ⟨A, c, Bx, htt, heb2, hvx, rfl, rfl⟩ ⟨rfl, rfl, rfl, trivial⟩ (fun w m => m.tail)
   ·refine Z14 rfl (decide_eq_false (by omega)) ?_
    (repeat (first | refine Z4 ?_ | refine Z1 ?_ | refine CW.block ?_ | refine CW.ret ?_ | refine CW.skip ?_ | refine CW.exit ?_ | refine Z9 ?_ | refine Z8 ?_ | refine Z27 ?_ | refine Z15 ?_ | refine Z101 rfl ?_ | refine Z16 ?_))
    refine Z2 (Z0 (Z3 rfl) rfl (Z0 (RV.eql rfl rfl) rfl (Z0 (Z5 rfl) rfl (Z6 ?_))))
    (repeat (first | refine Z4 ?_ | refine Z1 ?_ | refine CW.block ?_ | refine CW.ret ?_ | refine CW.skip ?_ | refine CW.exit ?_ | refine Z9 ?_ | refine Z8 ?_ | refine Z27 ?_ | refine Z15 ?_ | refine Z101 rfl ?_ | refine Z16 ?_))
    by_cases he0 : e = 0
    ·subst he0
     refine Z13 rfl (by rfl) ?_
     obtain ⟨_, h6, hq⟩ | ⟨h6, _⟩ := hst
     case inr => exact absurd rfl h6
     have h7 : i < its.length := by omega
     have hx : its[i]? = some its[i] := List.getElem?_eq_getElem h7
     rw [List.drop_eq_getElem_cons h7, parseL, hs] at hq
     obtain ⟨⟨fd, e2⟩, hr, hq⟩ := Option.bind_eq_some_iff.1 hq
     dsimp only at hq
     obtain ⟨ci2, hci, hcc⟩ := hri.get ItRd.len hx
     have hcl2 : ci2.length = 3 := ItRd.len _ _ hci
     have hΨ : ∀ w, Mem w0 w ((some b8, blk (s.cells b6) 96) :: (some b2, blk (Hdr.zero.C none 0).C 38) :: (Bx ++ N)) → More w0 Φ ((oi, blk (cr ++ ri) 25) :: B0) w := fun w m => ⟨hΦ w m.tail.tail.appR, hB w m.tail.tail.appL⟩
     have hΨ2 : ∀ w, Mem w0 w ((some b8, blk (s.cells b6) 96) :: (some b2, blk (Hdr.zero.C none 0).C 38) :: (Bx ++ N)) → More w0 Φ Bx w := fun w m => ⟨hΦ w m.tail.tail.appR, m.tail.tail.appL⟩
     (repeat (first | refine Z4 ?_ | refine Z1 ?_ | refine CW.block ?_ | refine CW.ret ?_ | refine CW.skip ?_ | refine CW.exit ?_ | refine Z9 ?_ | refine Z8 ?_ | refine Z27 ?_ | refine Z15 ?_ | refine Z101 rfl ?_ | refine Z16 ?_))
     refine CW.drawsX ((some b8, blk (s.cells b6) 96) :: (some b2, blk (Hdr.zero.C none 0).C 38) :: (Bx ++ N)) [8] (fun w m => m.pick [0, 2] 3 rfl rfl) mixed (by kernel_rfl) (Z10 0 rfl (by kernel_rfl) rfl (Z22 rfl Zh rfl rfl rfl rfl (Z135 b6 s)) rfl (Z10 1 rfl (by kernel_rfl) rfl (Z3 rfl) rfl (Z10 2 rfl (by kernel_rfl) rfl (Z3 rfl) rfl (Z10 3 rfl (by kernel_rfl) rfl (RV.idx_rs (i) rfl rfl rfl rfl rfl (hvi.isSome (by decide) h7) (by omega)) rfl (Z10 4 rfl (by kernel_rfl) rfl (RV.loadAs rfl rfl rfl rfl (fun w m => hvi.load (hΨ w m) hcc) hcl2) rfl (Z10 5 rfl (by kernel_rfl) rfl (Z3 rfl) rfl (Z10 6 rfl (by kernel_rfl) rfl (RV.idx_arr_at (a := ⟨0, 0, none⟩) rfl rfl rfl rfl (by omega) (by omega)) rfl ?_)))))))
     refine XW.slot (rptr (some ⟨0, 0, none⟩) i) (congrArg (fun k => Value.pointer (some (Addr.add ⟨0, 0, none⟩ k))) (Nat.mul_one _)) (Z10 7 rfl (by kernel_rfl) rfl (Z21 rfl rfl rfl (fun w m => hg0.cell (hΨ w m).1 (i64s_at hsw))) rfl (Z19 (M' := (some b6, blk (hh.C A c).C 38) :: (some b8, blk (s.cells b6) 96) :: (some b2, blk (Hdr.zero.C none 0).C 38) :: (Bx ++ N)) (fun w m => m.rot1) (fun w m => m.tail) ?_))
     refine XW.callE 8 rfl (by kernel_rfl) rfl Tryd.call45 rfl (fun N2 h2 => hslot_read_does w0 (More w0 Φ Bx) N2 (fun w m => hΨ2 w (h2 w m)) b6 s (hh.C A c).C 38 ci2 its[i] fd e2 hsl.1 (by rw [Z137]; exact hsl.2) (ItRd.mono (fun w q => ⟨q.1, hB w q.2⟩) _ _ hci) hr) (fun w m => m) rfl ?_
     rintro _ _ ⟨B2, l', heb3, rfl, rfl, hwr⟩
     obtain ⟨A2, c2, rfl, hv2⟩ := hwr.put hs (hvx.mono (fun w q => q.1))
     refine Z19 (M' := (some b6, blk ((hh.put i fd).C A2 c2).C 38) :: (some b8, blk (s.cells b6) 96) :: (some b2, blk (Hdr.zero.C none 0).C 38) :: (B2 ++ (Bx ++ N))) (fun w m => m.sk1.sk2) (fun w m => m.tail.sublist (List.Sublist.cons_cons _ (List.Sublist.cons_cons _ (List.sublist_append_right _ _)))) (Z10 9 rfl (by kernel_rfl) rfl (Z5 rfl) rfl (XW.nil (by kernel_rfl) ?_))
     (repeat (first | refine Z4 ?_ | refine Z1 ?_ | refine CW.block ?_ | refine CW.ret ?_ | refine CW.skip ?_ | refine CW.exit ?_ | refine Z9 ?_ | refine Z8 ?_ | refine Z27 ?_ | refine Z15 ?_ | refine Z101 rfl ?_ | refine Z16 ?_))
     refine Z2 (Z0 (RV.add rfl rfl (by omega)) rfl (Z0 (Z3 rfl) rfl (Z6 ?_)))
     (repeat (first | refine Z4 ?_ | refine Z1 ?_ | refine CW.block ?_ | refine CW.ret ?_ | refine CW.skip ?_ | refine CW.exit ?_ | refine Z9 ?_ | refine Z8 ?_ | refine Z27 ?_ | refine Z15 ?_ | refine Z101 rfl ?_ | refine Z16 ?_))
     refine Z132 (k' := 21 - (i + 1)) (by omega) ⟨i + 1, hh.put i fd, e2, A2, c2, B2 ++ Bx, rfl, by omega, heb3, ?_, by rw [Hdr.put_tail]; exact htt, fun w m => hB w m.appR, hv2.mono (fun w q => q.flat), rfl, rfl⟩ ⟨rfl, rfl, rfl, rfl, rfl, rfl, trivial⟩ (fun w m => by rw [List.append_assoc]; exact m.pick [0, 2] 3 rfl rfl)
     by_cases h8 : e2 = 0
     ·rw [if_pos h8] at hq
      exact .inl ⟨h8, by omega, hq⟩
     ·rw [if_neg h8] at hq
      obtain ⟨rfl, rfl⟩ := Prod.mk.inj (Zi hq)
      exact .inr ⟨h8, rfl, rfl⟩
    ·refine Z14 rfl (decide_eq_false (by omega)) ?_
     (repeat (first | refine Z4 ?_ | refine Z1 ?_ | refine CW.block ?_ | refine CW.ret ?_ | refine CW.skip ?_ | refine CW.exit ?_ | refine Z9 ?_ | refine Z8 ?_ | refine Z27 ?_ | refine Z15 ?_ | refine Z101 rfl ?_ | refine Z16 ?_))
     refine Z2 (Z0 (RV.add rfl rfl (by omega)) rfl (Z0 (Z3 rfl) rfl (Z6 ?_)))
     (repeat (first | refine Z4 ?_ | refine Z1 ?_ | refine CW.block ?_ | refine CW.ret ?_ | refine CW.skip ?_ | refine CW.exit ?_ | refine Z9 ?_ | refine Z8 ?_ | refine Z27 ?_ | refine Z15 ?_ | refine Z101 rfl ?_ | refine Z16 ?_))
     refine Z132 (k' := 21 - (i + 1)) (by omega) ⟨i + 1, hh, e, A, c, Bx, rfl, by omega, heb2, .inr (hst.resolve_left (fun h => he0 h.1)), htt, hB, hvx, rfl, rfl⟩ ⟨rfl, rfl, rfl, rfl, rfl, rfl, trivial⟩ (fun w m => m.tail)
  ·refine Z14 rfl (decide_eq_false (by omega)) (CW.exit ?_)
   (repeat (first | refine Z9 ?_ | refine Z15 ?_ | refine Z101 rfl ?_))
   have hfin : hh = h3 ∧ e = e3 := by
    rcases hst with ⟨rfl, _, hq⟩ | ⟨_, h5, h6⟩
    ·rw [List.drop_of_length_le (by omega), parseL] at hq
     obtain ⟨rfl, rfl⟩ := Prod.mk.inj (Zi hq)
     exact ⟨rfl, rfl⟩
    ·exact ⟨h5, h6⟩
   obtain ⟨rfl, rfl⟩ := hfin
   exact QW.join ⟨A, c, Bx, htt, heb2, hvx, rfl, rfl⟩ ⟨rfl, rfl, rfl, trivial⟩ (fun w m => m)
theorem header_Encode_does (w0 : World) (Φ : Ctx) (N : List Ent) (hΦ : ∀ w, Mem w0 w N → Φ w) (cs0_ : List Value) (a0 : Hdr) (res0 : List (BitVec 8)) (res1 : Nat) (ha0 : HdrRd Φ cs0_ a0) (hf : header_Encode a0 = some (res0, res1)) : DoesG Tryd.prog 24 [.agg cs0_.toArray] w0 [] N (fun v G => ∃ B : List Ent, ∃ or0 : Option Nat, ∃ kr0 : Nat, ∃ rr0 : List Value, (OwnS or0 res0.length kr0 1 (u8s res0) rr0) ∧ (res1 ≤ 9223372036854775807) ∧ v = .tuple #[sl or0 0 res0.length kr0, .int .i64 ((res1 : Nat) : Int)] ∧ G = (or0, blk ((u8s res0) ++ rr0) 5) :: B) := by
 unfold header_Encode at hf
 replace ha0 := HdrRd.mono (Ψ := More w0 Φ []) (fun w q => q.1) _ _ ha0
 have h6 := ha0
 obtain ⟨A1, c2, e5, v3, b4⟩ := HdrRd.opn ha0
 subst e5
 have m7 := v3.mx
 refine DoesG.enter Tryd.func24 rfl Tryd.ntmps24 rfl (M := (([] ++ N))) rfl (Z4 (Z2 (OW.boxA rfl rfl (fun b8 => (Z0 (Z5 rfl) rfl (Z0 (Z5 rfl) rfl (Z6 (Z1 (Z4 (Z2 (Z0 (Z22 rfl Zh rfl rfl rfl rfl (HdrC.C_length _)) rfl ?_)))))))))))
 obtain ⟨⟨x10, x11⟩, hx9, hf⟩ := Z105 hf
 try dsimp only at hf
 refine Z12 Tryd.call22 rfl (header_Item_does w0 (More w0 Φ []) ((some b8, blk (⟨a0.parent, a0.uncles, a0.coinbase, a0.state, a0.txRoot, a0.receiptRoot, a0.bloom, a0.difficulty, a0.number, a0.limit, a0.used, a0.time, .slice A1 a0.extra.length c2, a0.mix, a0.nonce, a0.tail, a0.baseFee, a0.withdrawals, a0.blobUsed, a0.blobExcess, a0.beacon, a0.requests⟩ : HdrC).C 38) :: ([] ++ N)) (fun w m => More.of hΦ 1 m rfl) (⟨a0.parent, a0.uncles, a0.coinbase, a0.state, a0.txRoot, a0.receiptRoot, a0.bloom, a0.difficulty, a0.number, a0.limit, a0.used, a0.time, .slice A1 a0.extra.length c2, a0.mix, a0.nonce, a0.tail, a0.baseFee, a0.withdrawals, a0.blobUsed, a0.blobExcess, a0.beacon, a0.requests⟩ : HdrC).C a0 x10 x11 h6 hx9) rfl rfl ?_
 rintro L16 M17 ⟨B12, cs13, h14, b15, e18, e19⟩
 rw [e18, e19]
 clear e18 e19 L16 M17
 refine Z20 (M' := ((some b8, blk (⟨a0.parent, a0.uncles, a0.coinbase, a0.state, a0.txRoot, a0.receiptRoot, a0.bloom, a0.difficulty, a0.number, a0.limit, a0.used, a0.time, .slice A1 a0.extra.length c2, a0.mix, a0.nonce, a0.tail, a0.baseFee, a0.withdrawals, a0.blobUsed, a0.blobExcess, a0.beacon, a0.requests⟩ : HdrC).C 38) :: ((B12 ++ []) ++ N))) (fun w m => by have h := Z118 (A := B12) m 0 1 rfl rfl; exact h) ?_
 have gq1 : ∀ w, More w0 Φ (B12 ++ []) w → More w0 Φ [] w := fun w q => More.mono (fun w m => (m).appR) q
 replace h6 := HdrRd.mono gq1 _ _ h6
 replace v3 := v3.mono gq1
 replace h14 := ItRd.mono (Ψ := (More w0 Φ (B12 ++ []))) (fun w q => More.flat q) _ _ h14
 have h29 := h14
 obtain ⟨A20, c21, A23, c24, cs26, e28, v22, v25, h27⟩ := ItRd.opn h14
 subst e28
 have m30 := v22.mx
 have m31 := v25.mx
 have m32 := v22.mx
 have m33 := v25.mx
 refine Z0 (Z3 rfl) rfl (Z0 (Z17 rfl rfl) rfl (Z7 (.agg [.bool (x10.list), .slice A20 x10.data.length c21, .slice A23 x10.items.length c24].toArray) (rfl) (Z0 (Z17 rfl rfl) rfl (Z7 (.int .i64 ((x11 : Nat) : Int)) (rfl) (OW.alloc (l := [.bool false, .slice none 0 0, .slice none 0 0]) rfl rfl rfl (fun b34 => ?_))))))
 refine Z28 (Z107 rfl rfl rfl (by intro u hu; simp at hu; rcases hu with rfl | rfl | rfl <;> rfl) rfl rfl rfl) ?_
 refine Z0 (Z5 rfl) rfl (Z6 (Z1 (Z4 (Z4 (Z2 (Z0 (Z3 rfl) rfl (Z0 (RV.neq rfl rfl) rfl (Z7 (.bool (!decide (x11 = 0))) (congrArg (fun b => Value.bool (!b)) (decide_eq_decide.2 (by omega))) (Z6 (Z1 ?_))))))))))
 by_cases h35 : x11 = 0
 ·replace hf := if_t hf h35
  refine Z14 rfl (congrArg (fun b => !b) (decide_eq_true h35)) (CW.skip (Z1 (Z4 (Z2 (Z0 (Z22 rfl Zh rfl rfl rfl rfl rfl) rfl ?_)))))
  obtain ⟨⟨x37, x38⟩, hx36, hf⟩ := Z105 hf
  try dsimp only at hf
  refine Z12 Tryd.call29 rfl (rlp_Encode_does w0 (More w0 Φ (B12 ++ [])) ((some b34, blk [.bool (x10.list), .slice A20 x10.data.length c21, .slice A23 x10.items.length c24] 25) :: (some b8, blk (⟨a0.parent, a0.uncles, a0.coinbase, a0.state, a0.txRoot, a0.receiptRoot, a0.bloom, a0.difficulty, a0.number, a0.limit, a0.used, a0.time, .slice A1 a0.extra.length c2, a0.mix, a0.nonce, a0.tail, a0.baseFee, a0.withdrawals, a0.blobUsed, a0.blobExcess, a0.beacon, a0.requests⟩ : HdrC).C 38) :: ((B12 ++ []) ++ N)) (fun w m => More.of hΦ 2 m rfl) [.bool (x10.list), .slice A20 x10.data.length c21, .slice A23 x10.items.length c24] x10 x37 x38 h29 hx36) rfl rfl ?_
  rintro L45 M46 ⟨B39, ob40, c41, r42, o43, b44, e47, e48⟩
  rw [e47, e48]
  clear e47 e48 L45 M46
  refine Z20 (M' := ((ob40, blk ((u8s x37) ++ r42) 5) :: (some b34, blk [.bool (x10.list), .slice A20 x10.data.length c21, .slice A23 x10.items.length c24] 25) :: (some b8, blk (⟨a0.parent, a0.uncles, a0.coinbase, a0.state, a0.txRoot, a0.receiptRoot, a0.bloom, a0.difficulty, a0.number, a0.limit, a0.used, a0.time, .slice A1 a0.extra.length c2, a0.mix, a0.nonce, a0.tail, a0.baseFee, a0.withdrawals, a0.blobUsed, a0.blobExcess, a0.beacon, a0.requests⟩ : HdrC).C 38) :: ((B39 ++ (B12 ++ [])) ++ N))) (fun w m => by have h := Z118 (A := B39) m 1 2 rfl rfl; exact h) ?_
  have gq2 : ∀ w, More w0 Φ (B39 ++ (B12 ++ [])) w → More w0 Φ (B12 ++ []) w := fun w q => More.mono (fun w m => (m).appR) q
  replace h6 := HdrRd.mono gq2 _ _ h6
  replace v3 := v3.mono gq2
  replace h29 := ItRd.mono gq2 _ _ h29
  replace v22 := v22.mono gq2
  replace v25 := v25.mono gq2
  replace h27 := h27.mono (ItRd.mono gq2)
  have m49 := o43.mx
  refine Z0 (Z17 rfl rfl) rfl (Z7 (sl ob40 0 x37.length c41) (rfl) (Z0 (Z17 rfl rfl) rfl (Z7 (.int .i64 ((x38 : Nat) : Int)) (rfl) (Z0 (Z5 rfl) rfl (Z0 (Z5 rfl) rfl (Z6 (Z1 (CW.ret ?_))))))))
  have er0 := Zi hf
  obtain ⟨e0, er1⟩ := Prod.mk.inj er0
  clear er0
  subst e0
  subst er1
  refine Z110 (rs := [.tmp 2, .tmp 3]) ([sl ob40 0 x37.length c41, .int .i64 ((x38 : Nat) : Int)]) ((ob40, blk ((u8s x37) ++ r42) 5) :: (B39 ++ (B12 ++ []))) rfl ?_ rfl ?_ ?_ _ (.inl rfl)
  ·exact ⟨rfl, rfl, trivial⟩
  ·exact ⟨(B39 ++ (B12 ++ [])), ob40, c41, r42, o43, (by omega), rfl, rfl⟩
  ·exact (fun w m => m.pick [0] 3 rfl rfl)
 ·replace hf := if_f hf h35
  refine Z13 rfl (congrArg (fun b => !b) (decide_eq_false h35)) (Z4 (Z2 (Z0 (Z3 rfl) rfl (Z0 (Z5 rfl) rfl (Z0 (Z5 rfl) rfl (Z6 (Z1 (CW.ret (Z8 (QW.mem (M' := ((none, blk ((u8s ([] : List (BitVec 8))) ++ []) 5) :: (some b34, blk [.bool (x10.list), .slice A20 x10.data.length c21, .slice A23 x10.items.length c24] 25) :: (some b8, blk (⟨a0.parent, a0.uncles, a0.coinbase, a0.state, a0.txRoot, a0.receiptRoot, a0.bloom, a0.difficulty, a0.number, a0.limit, a0.used, a0.time, .slice A1 a0.extra.length c2, a0.mix, a0.nonce, a0.tail, a0.baseFee, a0.withdrawals, a0.blobUsed, a0.blobExcess, a0.beacon, a0.requests⟩ : HdrC).C 38) :: ((B12 ++ []) ++ N))) (fun w m => m.nil_ent _) ?_))))))))))
  have er0 := Zi hf
  obtain ⟨e0, er1⟩ := Prod.mk.inj er0
  clear er0
  subst e0
  subst er1
  refine Z110 (rs := [.tmp 2, .tmp 3]) ([sl none 0 ([] : List (BitVec 8)).length 0, .int .i64 ((x11 : Nat) : Int)]) ((none, blk ((u8s ([] : List (BitVec 8))) ++ []) 5) :: (B12 ++ [])) rfl ?_ rfl ?_ ?_ _ (.inl rfl)
  ·exact ⟨rfl, rfl, trivial⟩
  ·exact ⟨(B12 ++ []), none, 0, [], OwnS.nil, (by omega), rfl, rfl⟩
  ·exact (fun w m => m.pick [0] 3 rfl rfl)
theorem header_Decode_does (w0 : World) (Φ : Ctx) (N : List Ent) (hΦ : ∀ w, Mem w0 w N → Φ w) (A0_ : Option Addr) (c0_ : Nat) (a0 : List (BitVec 8)) (res0 : Hdr) (res1 : Nat) (va0 : View Φ A0_ a0.length c0_ 1 (u8s a0)) (hg0 : View Φ (some ⟨0, 0, none⟩) 21 21 1 (i64s fieldsL)) (hf : header_Decode a0 = some (res0, res1)) : DoesG Tryd.prog 10 [.slice A0_ a0.length c0_] w0 [] N (fun v G => ∃ B : List Ent, ∃ cr0 : List Value, (HdrRd (More w0 Φ B) cr0 res0) ∧ (res1 ≤ 9223372036854775807) ∧ v = .tuple #[.agg cr0.toArray, .int .i64 ((res1 : Nat) : Int)] ∧ G = B) := by
 unfold header_Decode at hf
 replace va0 := va0.mono (Ψ := More w0 Φ []) (fun w q => q.1)
 replace hg0 := hg0.mono (Ψ := More w0 Φ []) (fun w q => q.1)
 have m1 := va0.mx
 refine DoesG.enter Tryd.func10 rfl Tryd.ntmps10 rfl (M := (([] ++ N))) rfl (Z4 (Z2 (OW.alloc (l := (⟨(Vector.replicate 32 0#8), (Vector.replicate 32 0#8), (Vector.replicate 20 0#8), (Vector.replicate 32 0#8), (Vector.replicate 32 0#8), (Vector.replicate 32 0#8), (Vector.replicate 256 0#8), (Vector.replicate 4 0#64), 0#64, 0#64, 0#64, 0#64, .slice none 0 0, (Vector.replicate 32 0#8), (Vector.replicate 8 0#8), (0 : Int), (Vector.replicate 4 0#64), (Vector.replicate 32 0#8), 0#64, 0#64, (Vector.replicate 32 0#8), (Vector.replicate 32 0#8)⟩ : HdrC).C) rfl (by kernel_rfl) rfl (fun b2 => (Z0 (Z5 rfl) rfl (Z6 (Z1 (Z4 (Z2 (Z0 (Z3 rfl) rfl ?_))))))))))
 obtain ⟨⟨x4, x5⟩, hx3, hf⟩ := Z105 hf
 try dsimp only at hf
 refine Z12 Tryd.call39 rfl (rlp_Decode_does w0 (More w0 Φ []) ((some b2, blk (⟨(Vector.replicate 32 0#8), (Vector.replicate 32 0#8), (Vector.replicate 20 0#8), (Vector.replicate 32 0#8), (Vector.replicate 32 0#8), (Vector.replicate 32 0#8), (Vector.replicate 256 0#8), (Vector.replicate 4 0#64), 0#64, 0#64, 0#64, 0#64, .slice none 0 0, (Vector.replicate 32 0#8), (Vector.replicate 8 0#8), (0 : Int), (Vector.replicate 4 0#64), (Vector.replicate 32 0#8), 0#64, 0#64, (Vector.replicate 32 0#8), (Vector.replicate 32 0#8)⟩ : HdrC).C 38) :: ([] ++ N)) (fun w m => More.of hΦ 1 m rfl) A0_ c0_ a0 x4 x5 va0 hx3) rfl rfl ?_
 rintro L10 M11 ⟨B6, cs7, h8, b9, e12, e13⟩
 rw [e12, e13]
 clear e12 e13 L10 M11
 refine Z20 (M' := ((some b2, blk (⟨(Vector.replicate 32 0#8), (Vector.replicate 32 0#8), (Vector.replicate 20 0#8), (Vector.replicate 32 0#8), (Vector.replicate 32 0#8), (Vector.replicate 32 0#8), (Vector.replicate 256 0#8), (Vector.replicate 4 0#64), 0#64, 0#64, 0#64, 0#64, .slice none 0 0, (Vector.replicate 32 0#8), (Vector.replicate 8 0#8), (0 : Int), (Vector.replicate 4 0#64), (Vector.replicate 32 0#8), 0#64, 0#64, (Vector.replicate 32 0#8), (Vector.replicate 32 0#8)⟩ : HdrC).C 38) :: ((B6 ++ []) ++ N))) (fun w m => by have h := Z118 (A := B6) m 0 1 rfl rfl; exact h) ?_
 have gq1 : ∀ w, More w0 Φ (B6 ++ []) w → More w0 Φ [] w := fun w q => More.mono (fun w m => (m).appR) q
 replace va0 := va0.mono gq1
 replace hg0 := hg0.mono gq1
 replace h8 := ItRd.mono (Ψ := (More w0 Φ (B6 ++ []))) (fun w q => More.flat q) _ _ h8
 have h23 := h8
 obtain ⟨A14, c15, A17, c18, cs20, e22, v16, v19, h21⟩ := ItRd.opn h8
 subst e22
 have m24 := v16.mx
 have m25 := v19.mx
 have m26 := v16.mx
 have m27 := v19.mx
 refine Z0 (Z3 rfl) rfl (Z0 (Z17 rfl rfl) rfl (Z7 (.agg [.bool (x4.list), .slice A14 x4.data.length c15, .slice A17 x4.items.length c18].toArray) (rfl) (Z0 (Z17 rfl rfl) rfl (Z7 (.int .i64 ((x5 : Nat) : Int)) (rfl) (OW.alloc (l := [.bool false, .slice none 0 0, .slice none 0 0]) rfl rfl rfl (fun b28 => ?_))))))
 refine Z28 (Z107 rfl rfl rfl (by intro u hu; simp at hu; rcases hu with rfl | rfl | rfl <;> rfl) rfl rfl rfl) ?_
 refine Z0 (Z5 rfl) rfl (Z6 (Z1 (Z4 (Z4 (Z2 (Z0 (Z3 rfl) rfl (Z0 (RV.neq rfl rfl) rfl (Z7 (.bool (!decide (x5 = 0))) (congrArg (fun b => Value.bool (!b)) (decide_eq_decide.2 (by omega))) (Z6 (Z1 ?_))))))))))
 by_cases h29 : x5 = 0
 ·replace hf := if_t hf h29
  refine Z14 rfl (congrArg (fun b => !b) (decide_eq_true h29)) (CW.skip (Z1 (Z4 (Z2 (Z0 (Z22 rfl Zh rfl rfl rfl rfl rfl) rfl ?_)))))
  obtain ⟨⟨x31, x32⟩, hx30, hf⟩ := Z105 hf
  try dsimp only at hf
  refine Z12 Tryd.call16 rfl (header_Parse_does w0 (More w0 Φ (B6 ++ [])) ((some b28, blk [.bool (x4.list), .slice A14 x4.data.length c15, .slice A17 x4.items.length c18] 25) :: (some b2, blk (⟨(Vector.replicate 32 0#8), (Vector.replicate 32 0#8), (Vector.replicate 20 0#8), (Vector.replicate 32 0#8), (Vector.replicate 32 0#8), (Vector.replicate 32 0#8), (Vector.replicate 256 0#8), (Vector.replicate 4 0#64), 0#64, 0#64, 0#64, 0#64, .slice none 0 0, (Vector.replicate 32 0#8), (Vector.replicate 8 0#8), (0 : Int), (Vector.replicate 4 0#64), (Vector.replicate 32 0#8), 0#64, 0#64, (Vector.replicate 32 0#8), (Vector.replicate 32 0#8)⟩ : HdrC).C 38) :: ((B6 ++ []) ++ N)) (fun w m => More.of hΦ 2 m rfl) [.bool (x4.list), .slice A14 x4.data.length c15, .slice A17 x4.items.length c18] x4 x31 x32 h23 hg0 hx30) rfl rfl ?_
  rintro L37 M38 ⟨B33, cs34, h35, b36, e39, e40⟩
  rw [e39, e40]
  clear e39 e40 L37 M38
  refine Z20 (M' := ((some b28, blk [.bool (x4.list), .slice A14 x4.data.length c15, .slice A17 x4.items.length c18] 25) :: (some b2, blk (⟨(Vector.replicate 32 0#8), (Vector.replicate 32 0#8), (Vector.replicate 20 0#8), (Vector.replicate 32 0#8), (Vector.replicate 32 0#8), (Vector.replicate 32 0#8), (Vector.replicate 256 0#8), (Vector.replicate 4 0#64), 0#64, 0#64, 0#64, 0#64, .slice none 0 0, (Vector.replicate 32 0#8), (Vector.replicate 8 0#8), (0 : Int), (Vector.replicate 4 0#64), (Vector.replicate 32 0#8), 0#64, 0#64, (Vector.replicate 32 0#8), (Vector.replicate 32 0#8)⟩ : HdrC).C 38) :: ((B33 ++ (B6 ++ [])) ++ N))) (fun w m => by have h := Z118 (A := B33) m 0 2 rfl rfl; exact h) ?_
  have gq2 : ∀ w, More w0 Φ (B33 ++ (B6 ++ [])) w → More w0 Φ (B6 ++ []) w := fun w q => More.mono (fun w m => (m).appR) q
  replace va0 := va0.mono gq2
  replace h23 := ItRd.mono gq2 _ _ h23
  replace v16 := v16.mono gq2
  replace v19 := v19.mono gq2
  replace h21 := h21.mono (ItRd.mono gq2)
  replace hg0 := hg0.mono gq2
  replace h35 := HdrRd.mono (Ψ := (More w0 Φ (B33 ++ (B6 ++ [])))) (fun w q => More.flat q) _ _ h35
  have h46 := h35
  obtain ⟨A41, c42, e45, v43, b44⟩ := HdrRd.opn h35
  subst e45
  have m47 := v43.mx
  have m48 := v43.mx
  refine Z0 (Z17 rfl rfl) rfl (Z7 (.agg (⟨x31.parent, x31.uncles, x31.coinbase, x31.state, x31.txRoot, x31.receiptRoot, x31.bloom, x31.difficulty, x31.number, x31.limit, x31.used, x31.time, .slice A41 x31.extra.length c42, x31.mix, x31.nonce, x31.tail, x31.baseFee, x31.withdrawals, x31.blobUsed, x31.blobExcess, x31.beacon, x31.requests⟩ : HdrC).C.toArray) (rfl) (Z0 (Z17 rfl rfl) rfl (Z7 (.int .i64 ((x32 : Nat) : Int)) (rfl) (OW.rot1 (Z28 (Z107 rfl rfl rfl (HdrC.C_one _ rfl) rfl (HdrC.C_length _) (HdrC.C_length _)) (Z0 (Z5 rfl) rfl (Z6 (Z1 (CW.ret ?_)))))))))
  have er0 := Zi hf
  obtain ⟨e0, er1⟩ := Prod.mk.inj er0
  clear er0
  subst e0
  subst er1
  refine Z110 (rs := [.cell 2 38, .tmp 3]) ([.agg (⟨x31.parent, x31.uncles, x31.coinbase, x31.state, x31.txRoot, x31.receiptRoot, x31.bloom, x31.difficulty, x31.number, x31.limit, x31.used, x31.time, .slice A41 x31.extra.length c42, x31.mix, x31.nonce, x31.tail, x31.baseFee, x31.withdrawals, x31.blobUsed, x31.blobExcess, x31.beacon, x31.requests⟩ : HdrC).C.toArray, .int .i64 ((x32 : Nat) : Int)]) ((B33 ++ (B6 ++ []))) rfl ?_ rfl ?_ ?_ _ (.inl rfl)
  ·exact ⟨⟨_, _, _, _, rfl, Zh, rfl, rfl, (congrArg some (HdrC.C_length _).symm), rfl⟩, rfl, trivial⟩
  ·exact ⟨(B33 ++ (B6 ++ [])), (⟨x31.parent, x31.uncles, x31.coinbase, x31.state, x31.txRoot, x31.receiptRoot, x31.bloom, x31.difficulty, x31.number, x31.limit, x31.used, x31.time, .slice A41 x31.extra.length c42, x31.mix, x31.nonce, x31.tail, x31.baseFee, x31.withdrawals, x31.blobUsed, x31.blobExcess, x31.beacon, x31.requests⟩ : HdrC).C, h46, (by omega), rfl, rfl⟩
  ·exact (fun w m => m.pick [] 2 rfl rfl)
 ·replace hf := if_f hf h29
  refine Z13 rfl (congrArg (fun b => !b) (decide_eq_false h29)) (Z4 (Z2 (Z0 (Z117 (l := (⟨(Vector.replicate 32 0#8), (Vector.replicate 32 0#8), (Vector.replicate 20 0#8), (Vector.replicate 32 0#8), (Vector.replicate 32 0#8), (Vector.replicate 32 0#8), (Vector.replicate 256 0#8), (Vector.replicate 4 0#64), 0#64, 0#64, 0#64, 0#64, .slice none 0 0, (Vector.replicate 32 0#8), (Vector.replicate 8 0#8), (0 : Int), (Vector.replicate 4 0#64), (Vector.replicate 32 0#8), 0#64, 0#64, (Vector.replicate 32 0#8), (Vector.replicate 32 0#8)⟩ : HdrC).C) (cs := (⟨(Vector.replicate 32 0#8), (Vector.replicate 32 0#8), (Vector.replicate 20 0#8), (Vector.replicate 32 0#8), (Vector.replicate 32 0#8), (Vector.replicate 32 0#8), (Vector.replicate 256 0#8), (Vector.replicate 4 0#64), 0#64, 0#64, 0#64, 0#64, .slice none 0 0, (Vector.replicate 32 0#8), (Vector.replicate 8 0#8), (0 : Int), (Vector.replicate 4 0#64), (Vector.replicate 32 0#8), 0#64, 0#64, (Vector.replicate 32 0#8), (Vector.replicate 32 0#8)⟩ : HdrC).C) [] rfl rfl rfl (by kernel_rfl) rfl rfl rfl) rfl (Z0 (Z3 rfl) rfl (OW.rot1 (Z28 (Z107 rfl rfl rfl (HdrC.C_one _ rfl) rfl (HdrC.C_length _) (HdrC.C_length _)) (Z0 (Z5 rfl) rfl (Z6 (Z1 (CW.ret (Z8 ?_)))))))))))
  have er0 := Zi hf
  obtain ⟨e0, er1⟩ := Prod.mk.inj er0
  clear er0
  subst e0
  subst er1
  have v49 : View (More w0 Φ (B6 ++ [])) none ([] : List (BitVec 8)).length 0 1 (u8s []) := View.nil
  have h50 : HdrRd (More w0 Φ (B6 ++ [])) (⟨(Vector.replicate 32 0#8), (Vector.replicate 32 0#8), (Vector.replicate 20 0#8), (Vector.replicate 32 0#8), (Vector.replicate 32 0#8), (Vector.replicate 32 0#8), (Vector.replicate 256 0#8), (Vector.replicate 4 0#64), 0#64, 0#64, 0#64, 0#64, .slice none 0 0, (Vector.replicate 32 0#8), (Vector.replicate 8 0#8), (0 : Int), (Vector.replicate 4 0#64), (Vector.replicate 32 0#8), 0#64, 0#64, (Vector.replicate 32 0#8), (Vector.replicate 32 0#8)⟩ : HdrC).C (Hdr.mk (Vector.replicate 32 0#8) (Vector.replicate 32 0#8) (Vector.replicate 20 0#8) (Vector.replicate 32 0#8) (Vector.replicate 32 0#8) (Vector.replicate 32 0#8) (Vector.replicate 256 0#8) (Vector.replicate 4 0#64) (0#64) (0#64) (0#64) (0#64) ([] : List (BitVec 8)) (Vector.replicate 32 0#8) (Vector.replicate 8 0#8) (0 : Int) (Vector.replicate 4 0#64) (Vector.replicate 32 0#8) (0#64) (0#64) (Vector.replicate 32 0#8) (Vector.replicate 32 0#8)) := HdrRd.zero
  refine Z110 (rs := [.cell 2 38, .tmp 3]) ([.agg (⟨(Vector.replicate 32 0#8), (Vector.replicate 32 0#8), (Vector.replicate 20 0#8), (Vector.replicate 32 0#8), (Vector.replicate 32 0#8), (Vector.replicate 32 0#8), (Vector.replicate 256 0#8), (Vector.replicate 4 0#64), 0#64, 0#64, 0#64, 0#64, .slice none 0 0, (Vector.replicate 32 0#8), (Vector.replicate 8 0#8), (0 : Int), (Vector.replicate 4 0#64), (Vector.replicate 32 0#8), 0#64, 0#64, (Vector.replicate 32 0#8), (Vector.replicate 32 0#8)⟩ : HdrC).C.toArray, .int .i64 ((x5 : Nat) : Int)]) ((B6 ++ [])) rfl ?_ rfl ?_ ?_ _ (.inl rfl)
  ·exact ⟨⟨_, _, _, _, rfl, Zh, rfl, rfl, (congrArg some (HdrC.C_length _).symm), rfl⟩, rfl, trivial⟩
  ·exact ⟨(B6 ++ []), (⟨(Vector.replicate 32 0#8), (Vector.replicate 32 0#8), (Vector.replicate 20 0#8), (Vector.replicate 32 0#8), (Vector.replicate 32 0#8), (Vector.replicate 32 0#8), (Vector.replicate 256 0#8), (Vector.replicate 4 0#64), 0#64, 0#64, 0#64, 0#64, .slice none 0 0, (Vector.replicate 32 0#8), (Vector.replicate 8 0#8), (0 : Int), (Vector.replicate 4 0#64), (Vector.replicate 32 0#8), 0#64, 0#64, (Vector.replicate 32 0#8), (Vector.replicate 32 0#8)⟩ : HdrC).C, h50, (by omega), rfl, rfl⟩
  ·exact (fun w m => m.pick [] 2 rfl rfl)
theorem header_Hash_does (w0 : World) (Φ : Ctx) (N : List Ent) (hΦ : ∀ w, Mem w0 w N → Φ w) (cs0_ : List Value) (a0 : Hdr) (res0 : Vector (BitVec 8) 32) (res1 : Nat) (ha0 : HdrRd Φ cs0_ a0) (hg1 : View Φ (some ⟨1, 0, none⟩) 2 2 1 (u8s firstL)) (hf : header_Hash a0 = some (res0, res1)) : DoesG Tryd.prog 26 [.agg cs0_.toArray] w0 [] N (fun v G => (res1 ≤ 9223372036854775807) ∧ v = .tuple #[.agg (u8s res0.toList).toArray, .int .i64 ((res1 : Nat) : Int)]) := by
 unfold header_Hash at hf
 replace hg1 := hg1.mono (Ψ := More w0 Φ []) (fun w q => q.1)
 replace ha0 := HdrRd.mono (Ψ := More w0 Φ []) (fun w q => q.1) _ _ ha0
 have h6 := ha0
 obtain ⟨A1, c2, e5, v3, b4⟩ := HdrRd.opn ha0
 subst e5
 have m7 := v3.mx
 refine DoesG.enter Tryd.func26 rfl Tryd.ntmps26 rfl (M := (([] ++ N))) rfl (Z4 (Z2 (OW.boxA rfl rfl (fun b8 => (OW.alloc (l := (u8s (Vector.replicate 32 0#8).toList)) rfl (by rw [Vector.toList_replicate, ← u8s_rep']; rfl) rfl (fun b9 => (Z0 (Z5 rfl) rfl (Z6 (Z1 (Z4 (Z2 (Z0 (Z22 rfl (List.Mem.tail _ Zh) rfl rfl rfl rfl (HdrC.C_length _)) rfl ?_))))))))))))
 obtain ⟨⟨x11, x12⟩, hx10, hf⟩ := Z105 hf
 try dsimp only at hf
 refine Z12 Tryd.call24 rfl (header_Encode_does w0 (More w0 Φ []) ((some b9, blk (u8s (Vector.replicate 32 0#8).toList) 28) :: (some b8, blk (⟨a0.parent, a0.uncles, a0.coinbase, a0.state, a0.txRoot, a0.receiptRoot, a0.bloom, a0.difficulty, a0.number, a0.limit, a0.used, a0.time, .slice A1 a0.extra.length c2, a0.mix, a0.nonce, a0.tail, a0.baseFee, a0.withdrawals, a0.blobUsed, a0.blobExcess, a0.beacon, a0.requests⟩ : HdrC).C 38) :: ([] ++ N)) (fun w m => More.of hΦ 2 m rfl) (⟨a0.parent, a0.uncles, a0.coinbase, a0.state, a0.txRoot, a0.receiptRoot, a0.bloom, a0.difficulty, a0.number, a0.limit, a0.used, a0.time, .slice A1 a0.extra.length c2, a0.mix, a0.nonce, a0.tail, a0.baseFee, a0.withdrawals, a0.blobUsed, a0.blobExcess, a0.beacon, a0.requests⟩ : HdrC).C a0 x11 x12 h6 hx10) rfl rfl ?_
 rintro L19 M20 ⟨B13, ob14, c15, r16, o17, b18, e21, e22⟩
 rw [e21, e22]
 clear e21 e22 L19 M20
 refine Z20 (M' := ((ob14, blk ((u8s x11) ++ r16) 5) :: (some b9, blk (u8s (Vector.replicate 32 0#8).toList) 28) :: (some b8, blk (⟨a0.parent, a0.uncles, a0.coinbase, a0.state, a0.txRoot, a0.receiptRoot, a0.bloom, a0.difficulty, a0.number, a0.limit, a0.used, a0.time, .slice A1 a0.extra.length c2, a0.mix, a0.nonce, a0.tail, a0.baseFee, a0.withdrawals, a0.blobUsed, a0.blobExcess, a0.beacon, a0.requests⟩ : HdrC).C 38) :: ((B13 ++ []) ++ N))) (fun w m => by have h := Z118 (A := B13) m 1 2 rfl rfl; exact h) ?_
 have gq1 : ∀ w, More w0 Φ (B13 ++ []) w → More w0 Φ [] w := fun w q => More.mono (fun w m => (m).appR) q
 replace h6 := HdrRd.mono gq1 _ _ h6
 replace v3 := v3.mono gq1
 replace hg1 := hg1.mono gq1
 have m23 := o17.mx
 refine Z0 (Z3 rfl) rfl (Z0 (Z17 rfl rfl) rfl (Z7 (sl ob14 0 x11.length c15) (rfl) (Z0 (Z17 rfl rfl) rfl (Z7 (.int .i64 ((x12 : Nat) : Int)) (rfl) (Z0 (Z5 rfl) rfl (Z0 (Z5 rfl) rfl (Z6 (Z1 (Z4 (Z4 (Z2 ?_)))))))))))
 refine Z0 (Z3 rfl) rfl (Z0 (RV.neq rfl rfl) rfl (Z7 (.bool (!decide (x12 = 0))) (congrArg (fun b => Value.bool (!b)) (decide_eq_decide.2 (by omega))) (Z6 (Z1 ?_))))
 by_cases h24 : x12 = 0
 ·replace hf := if_t hf h24
  refine Z14 rfl (congrArg (fun b => !b) (decide_eq_true h24)) (CW.skip (Z1 (Z4 (Z2 (Z0 (Z3 rfl) rfl (Z20 (M' := (some b9, blk (u8s (Vector.replicate 32 0#8).toList) 28) :: (some b8, blk (⟨a0.parent, a0.uncles, a0.coinbase, a0.state, a0.txRoot, a0.receiptRoot, a0.bloom, a0.difficulty, a0.number, a0.limit, a0.used, a0.time, .slice A1 a0.extra.length c2, a0.mix, a0.nonce, a0.tail, a0.baseFee, a0.withdrawals, a0.blobUsed, a0.blobExcess, a0.beacon, a0.requests⟩ : HdrC).C 38) :: (((ob14, blk ((u8s x11) ++ r16) 5) :: (B13 ++ [])) ++ N)) (fun w m => m.pick [1, 2, 0] 3 rfl rfl) ?_))))))
  have gq2 : ∀ w, More w0 Φ ((ob14, blk ((u8s x11) ++ r16) 5) :: (B13 ++ [])) w → More w0 Φ (B13 ++ []) w := fun w q => More.mono (fun w m => (m).tail) q
  replace h6 := HdrRd.mono gq2 _ _ h6
  replace v3 := v3.mono gq2
  replace hg1 := hg1.mono gq2
  have v27 : View (More w0 Φ ((ob14, blk ((u8s x11) ++ r16) 5) :: (B13 ++ []))) ((ob14).map fun k => ⟨k, 0, none⟩) x11.length c15 1 (u8s x11) := o17.view (by decide) (fun w q => q.2.sublist (List.singleton_sublist.2 (List.mem_cons_self ..)))
  refine OW.ofN (NV.bs1 rfl rfl rfl rfl rfl rfl) rfl (fun b25 => ?_)
  have h29 : Reps (BsRd (More w0 Φ ((ob14, blk ((u8s x11) ++ r16) 5) :: (B13 ++ [])))) (([.slice ((ob14).map fun k => ⟨k, 0, none⟩) x11.length c15] : List Value)) [x11] := Reps.one (BsRd.mk v27)
  refine Z20 (M' := (((some b25), blk ((([.slice ((ob14).map fun k => ⟨k, 0, none⟩) x11.length c15] : List Value)) ++ []) 22) :: (some b9, blk (u8s (Vector.replicate 32 0#8).toList) 28) :: (some b8, blk (⟨a0.parent, a0.uncles, a0.coinbase, a0.state, a0.txRoot, a0.receiptRoot, a0.bloom, a0.difficulty, a0.number, a0.limit, a0.used, a0.time, .slice A1 a0.extra.length c2, a0.mix, a0.nonce, a0.tail, a0.baseFee, a0.withdrawals, a0.blobUsed, a0.blobExcess, a0.beacon, a0.requests⟩ : HdrC).C 38) :: (((ob14, blk ((u8s x11) ++ r16) 5) :: (B13 ++ [])) ++ N))) (fun w m => m) ?_
  have o26 : OwnS (some b25) ([x11] : List (List (BitVec 8))).length 1 1 (([.slice ((ob14).map fun k => ⟨k, 0, none⟩) x11.length c15] : List Value)) [] := ⟨by simp [BsRd], by simp [BsRd], (fun h => nomatch h), by simp⟩
  have mx_o26 := o26.mx
  refine Z7 (sl (some b25) 0 ([x11] : List (List (BitVec 8))).length 1) (rfl) (Z20 (M' := (some b9, blk (u8s (Vector.replicate 32 0#8).toList) 28) :: (some b8, blk (⟨a0.parent, a0.uncles, a0.coinbase, a0.state, a0.txRoot, a0.receiptRoot, a0.bloom, a0.difficulty, a0.number, a0.limit, a0.used, a0.time, .slice A1 a0.extra.length c2, a0.mix, a0.nonce, a0.tail, a0.baseFee, a0.withdrawals, a0.blobUsed, a0.blobExcess, a0.beacon, a0.requests⟩ : HdrC).C 38) :: ((((some b25), blk ((([.slice ((ob14).map fun k => ⟨k, 0, none⟩) x11.length c15] : List Value)) ++ []) 22) :: ((ob14, blk ((u8s x11) ++ r16) 5) :: (B13 ++ []))) ++ N)) (fun w m => m.pick [1, 2, 0] 3 rfl rfl) ?_)
  have gq3 : ∀ w, More w0 Φ (((some b25), blk ((([.slice ((ob14).map fun k => ⟨k, 0, none⟩) x11.length c15] : List Value)) ++ []) 22) :: ((ob14, blk ((u8s x11) ++ r16) 5) :: (B13 ++ []))) w → More w0 Φ ((ob14, blk ((u8s x11) ++ r16) 5) :: (B13 ++ [])) w := fun w q => More.mono (fun w m => (m).tail) q
  replace h6 := HdrRd.mono gq3 _ _ h6
  replace v3 := v3.mono gq3
  replace v27 := v27.mono gq3
  replace h29 := h29.mono (BsRd.mono gq3)
  replace hg1 := hg1.mono gq3
  have v30 : View (More w0 Φ (((some b25), blk ((([.slice ((ob14).map fun k => ⟨k, 0, none⟩) x11.length c15] : List Value)) ++ []) 22) :: ((ob14, blk ((u8s x11) ++ r16) 5) :: (B13 ++ [])))) (((some b25)).map fun k => ⟨k, 0, none⟩) ([x11] : List (List (BitVec 8))).length 1 1 (([.slice ((ob14).map fun k => ⟨k, 0, none⟩) x11.length c15] : List Value)) := o26.view (by decide) (fun w q => q.2.sublist (List.singleton_sublist.2 (List.mem_cons_self ..)))
  obtain ⟨x32, hx31, hf⟩ := Z105 hf
  refine Z12 Tryd.call31 rfl (keccak_Sum_does w0 (More w0 Φ (((some b25), blk ((([.slice ((ob14).map fun k => ⟨k, 0, none⟩) x11.length c15] : List Value)) ++ []) 22) :: ((ob14, blk ((u8s x11) ++ r16) 5) :: (B13 ++ [])))) ((some b9, blk (u8s (Vector.replicate 32 0#8).toList) 28) :: (some b8, blk (⟨a0.parent, a0.uncles, a0.coinbase, a0.state, a0.txRoot, a0.receiptRoot, a0.bloom, a0.difficulty, a0.number, a0.limit, a0.used, a0.time, .slice A1 a0.extra.length c2, a0.mix, a0.nonce, a0.tail, a0.baseFee, a0.withdrawals, a0.blobUsed, a0.blobExcess, a0.beacon, a0.requests⟩ : HdrC).C 38) :: ((((some b25), blk ((([.slice ((ob14).map fun k => ⟨k, 0, none⟩) x11.length c15] : List Value)) ++ []) 22) :: ((ob14, blk ((u8s x11) ++ r16) 5) :: (B13 ++ []))) ++ N)) (fun w m => More.of hΦ 2 m rfl) (((some b25)).map fun k => ⟨k, 0, none⟩) 1 (([.slice ((ob14).map fun k => ⟨k, 0, none⟩) x11.length c15] : List Value)) ([x11] : List (List (BitVec 8))) x32 v30 h29 hg1 hx31) rfl rfl ?_
  rintro _ G33 rfl
  refine Z20 (M' := ((some b9, blk (u8s (Vector.replicate 32 0#8).toList) 28) :: (some b8, blk (⟨a0.parent, a0.uncles, a0.coinbase, a0.state, a0.txRoot, a0.receiptRoot, a0.bloom, a0.difficulty, a0.number, a0.limit, a0.used, a0.time, .slice A1 a0.extra.length c2, a0.mix, a0.nonce, a0.tail, a0.baseFee, a0.withdrawals, a0.blobUsed, a0.blobExcess, a0.beacon, a0.requests⟩ : HdrC).C 38) :: ((((some b25), blk ((([.slice ((ob14).map fun k => ⟨k, 0, none⟩) x11.length c15] : List Value)) ++ []) 22) :: ((ob14, blk ((u8s x11) ++ r16) 5) :: (B13 ++ []))) ++ N))) (fun w m => m.appR) (Z28 (Z107 rfl rfl rfl (Z133 _) rfl ((Z100 _).trans Zv) ((Z100 _).trans Zv)) (Z0 (Z5 rfl) rfl (Z6 (Z1 (CW.ret ?_)))))
  have er0 := Zi hf
  obtain ⟨e0, er1⟩ := Prod.mk.inj er0
  clear er0
  subst e0
  subst er1
  refine Z110 (rs := [.cell 2 28, .tmp 3]) ([.agg (u8s x32.toList).toArray, .int .i64 (0 : Int)]) ((some b9, blk (u8s x32.toList) 28) :: (some b8, blk (⟨a0.parent, a0.uncles, a0.coinbase, a0.state, a0.txRoot, a0.receiptRoot, a0.bloom, a0.difficulty, a0.number, a0.limit, a0.used, a0.time, .slice A1 a0.extra.length c2, a0.mix, a0.nonce, a0.tail, a0.baseFee, a0.withdrawals, a0.blobUsed, a0.blobExcess, a0.beacon, a0.requests⟩ : HdrC).C 38) :: (((some b25), blk ((([.slice ((ob14).map fun k => ⟨k, 0, none⟩) x11.length c15] : List Value)) ++ []) 22) :: ((ob14, blk ((u8s x11) ++ r16) 5) :: (B13 ++ [])))) rfl ?_ rfl ?_ ?_ _ (.inl rfl)
  ·exact ⟨⟨_, _, _, _, rfl, Zh, rfl, rfl, (congrArg some ((Z100 _).trans Zv).symm), rfl⟩, rfl, trivial⟩
  ·exact ⟨(by omega), rfl⟩
  ·exact (fun w m => m)
 ·replace hf := if_f hf h24
  refine Z13 rfl (congrArg (fun b => !b) (decide_eq_false h24)) (Z4 (Z2 (Z0 (RV.build0 (l := (u8s (Vector.replicate 32 0#8).toList)) rfl rfl rfl (by rw [Vector.toList_replicate, ← u8s_rep']; rfl)) rfl (Z0 (Z3 rfl) rfl (OW.rot1 (Z28 (Z107 rfl rfl rfl (Z133 _) rfl ((Z100 _).trans Zv) ((Z100 _).trans Zv)) (Z0 (Z5 rfl) rfl (Z6 (Z1 (CW.ret (Z8 ?_)))))))))))
  have er0 := Zi hf
  obtain ⟨e0, er1⟩ := Prod.mk.inj er0
  clear er0
  subst e0
  subst er1
  refine Z110 (rs := [.cell 2 28, .tmp 3]) ([.agg (u8s (Vector.replicate 32 0#8).toList).toArray, .int .i64 ((x12 : Nat) : Int)]) ((some b9, blk (u8s (Vector.replicate 32 0#8).toList) 28) :: (ob14, blk ((u8s x11) ++ r16) 5) :: (some b8, blk (⟨a0.parent, a0.uncles, a0.coinbase, a0.state, a0.txRoot, a0.receiptRoot, a0.bloom, a0.difficulty, a0.number, a0.limit, a0.used, a0.time, .slice A1 a0.extra.length c2, a0.mix, a0.nonce, a0.tail, a0.baseFee, a0.withdrawals, a0.blobUsed, a0.blobExcess, a0.beacon, a0.requests⟩ : HdrC).C 38) :: (B13 ++ [])) rfl ?_ rfl ?_ ?_ _ (.inl rfl)
  ·exact ⟨⟨_, _, _, _, rfl, Zh, rfl, rfl, (congrArg some ((Z100 _).trans Zv).symm), rfl⟩, rfl, trivial⟩
  ·exact ⟨(by omega), rfl⟩
  ·exact (fun w m => m)
theorem waybilllaw19_twin_raw (w0 : World) (Φ : Ctx) (N : List Ent) (hΦ : ∀ w, Mem w0 w N → Φ w) (cs0_ : List Value) (a0 res0 : Hdr) (ha0 : HdrRd Φ cs0_ a0) (hf : waybilllaw19_twin a0 = some res0) : DoesG Tryd.prog 19 [.agg cs0_.toArray] w0 [] N (fun v G => ∃ (b : Nat) (B : List Ent), res0 = a0 ∧ a0.extra.length + 9 ≤ 140737488355328 ∧ (-9223372036854775808 ≤ a0.tail ∧ a0.tail ≤ 9223372036854775807) ∧ v = .agg ((a0.C (some ⟨b, 0, none⟩) (a0.extra.length + 9)).C).toArray ∧ G = (some b, blk (u8s (a0.extra ++ List.replicate 9 165#8)) 5) :: B) := by
 unfold waybilllaw19_twin at hf
 obtain ⟨hb, hf⟩ := Z124 hf
 cases hf
 obtain ⟨A, c, rfl, hv0, ht⟩ := ha0.opnC
 have hext : (a0.C A c).C[444]? = some (.slice A a0.extra.length c) := Z148 (a0.C A c)
 refine DoesG.enter Tryd.func19 rfl Tryd.ntmps19 rfl (M := N) rfl ?_
 (repeat (first | refine Z4 ?_ | refine Z1 ?_ | refine CW.block ?_ | refine CW.ret ?_ | refine CW.skip ?_ | refine CW.exit ?_ | refine Z9 ?_ | refine Z8 ?_ | refine Z27 ?_ | refine Z15 ?_ | refine Z101 rfl ?_ | refine Z16 ?_))
 refine Z2 (OW.boxA rfl rfl (fun b1 => (OW.alloc (l := (Hdr.zero.C none 0).C) rfl zhdr_cells rfl (fun b2 => (Z6 ?_)))))
 (repeat (first | refine Z4 ?_ | refine Z1 ?_ | refine CW.block ?_ | refine CW.ret ?_ | refine CW.skip ?_ | refine CW.exit ?_ | refine Z9 ?_ | refine Z8 ?_ | refine Z27 ?_ | refine Z15 ?_ | refine Z101 rfl ?_ | refine Z16 ?_))
 refine Z2 (Z0 (Z30 rfl rfl rfl rfl) rfl (Z0 (Z29 rfl (List.Mem.tail _ Zh) rfl rfl rfl hext) rfl (Z0 (RV.len rfl rfl) rfl (Z0 (RV.add rfl rfl (by omega)) rfl (OW.make (a0.extra.length + 9) (a0.extra.length + 9) rfl (by first | rfl | omega) rfl (by first | rfl | omega) rfl rfl rfl rfl (by omega) (by simp only [i5]; omega) (by omega) rfl (fun b9 => (Z0 (Z5 rfl) rfl (Z6 ?_))))))))
 (repeat (first | refine Z4 ?_ | refine Z1 ?_ | refine CW.block ?_ | refine CW.ret ?_ | refine CW.skip ?_ | refine CW.exit ?_ | refine Z9 ?_ | refine Z8 ?_ | refine Z27 ?_ | refine Z15 ?_ | refine Z101 rfl ?_ | refine Z16 ?_))
 refine Z2 (Z0 (Z3 rfl) rfl (Z0 (Z30 rfl rfl rfl rfl) rfl (Z0 (Z29 rfl (List.Mem.tail _ (List.Mem.tail _ Zh)) rfl rfl rfl hext) rfl (OW.copy (ob := some b9) (off := 0) (l := List.replicate (a0.extra.length + 9) (Value.int .u8 0)) (te := 5) rfl rfl rfl rfl (fun h => nomatch h) (by rw [List.length_replicate]; omega) (fun w m => hv0.rd w (hΦ w (m.drop 3))) (Z100 _) (Z133 _) (hv0.zero (by decide)) rfl (Z6 ?_)))))
 (repeat (first | refine Z4 ?_ | refine Z1 ?_ | refine CW.block ?_ | refine CW.ret ?_ | refine CW.skip ?_ | refine CW.exit ?_ | refine Z9 ?_ | refine Z8 ?_ | refine Z27 ?_ | refine Z15 ?_ | refine Z101 rfl ?_ | refine Z16 ?_))
 refine CW.mem (M' := (some b9, blk (u8s (mkd 9 165#8 a0.extra a0.extra.length)) 5) :: (some b2, blk (Hdr.zero.C none 0).C 38) :: (some b1, blk (a0.C A c).C 38) :: N) (fun w m => by rw [mkd_copy (n := 9) (m := 165#8) (by omega)] at m; exact m) ?_
 (repeat (first | refine Z4 ?_ | refine Z1 ?_ | refine CW.block ?_ | refine CW.ret ?_ | refine CW.skip ?_ | refine CW.exit ?_ | refine Z9 ?_ | refine Z8 ?_ | refine Z27 ?_ | refine Z15 ?_ | refine Z101 rfl ?_ | refine Z16 ?_))
 refine Z2 (Z0 (Z30 rfl rfl rfl rfl) rfl (Z0 (Z29 rfl (List.Mem.tail _ (List.Mem.tail _ Zh)) rfl rfl rfl hext) rfl (Z0 (RV.len rfl rfl) rfl (Z0 (Z5 rfl) rfl (Z6 ?_)))))
 (repeat (first | refine Z4 ?_ | refine Z1 ?_ | refine CW.block ?_ | refine CW.ret ?_ | refine CW.skip ?_ | refine CW.exit ?_ | refine Z9 ?_ | refine Z8 ?_ | refine Z27 ?_ | refine Z15 ?_ | refine Z101 rfl ?_ | refine Z16 ?_))
 refine CW.loop (σ := Nat) (fun i => a0.extra.length ≤ i ∧ i ≤ a0.extra.length + 9) (fun i => [(1, ptr (some b1) 0), (2, ptr (some b2) 0), (3, sl (some b9) 0 (a0.extra.length + 9) (a0.extra.length + 9)), (4, .int .i64 (i : Int))]) (fun i => (some b9, blk (u8s (mkd 9 165#8 a0.extra i)) 5) :: (some b2, blk (Hdr.zero.C none 0).C 38) :: (some b1, blk (a0.C A c).C 38) :: N) (fun i => a0.extra.length + 9 - i) a0.extra.length ⟨by omega, by omega⟩ ⟨rfl, rfl, rfl, rfl, trivial⟩ (fun _ m => m) ?_
 rintro i ⟨h1, h2⟩
 have hlen := mkd_length (n := 9) (m := 165#8) h1 h2
 (repeat (first | refine Z4 ?_ | refine Z1 ?_ | refine CW.block ?_ | refine CW.ret ?_ | refine CW.skip ?_ | refine CW.exit ?_ | refine Z9 ?_ | refine Z8 ?_ | refine Z27 ?_ | refine Z15 ?_ | refine Z101 rfl ?_ | refine Z16 ?_))
 refine Z2 (Z0 (Z3 rfl) rfl (Z0 (Z3 rfl) rfl (Z0 (RV.len rfl rfl) rfl (Z0 (RV.lss rfl rfl) rfl (Z6 ?_)))))
 (repeat (first | refine Z4 ?_ | refine Z1 ?_ | refine CW.block ?_ | refine CW.ret ?_ | refine CW.skip ?_ | refine CW.exit ?_ | refine Z9 ?_ | refine Z8 ?_ | refine Z27 ?_ | refine Z15 ?_ | refine Z101 rfl ?_ | refine Z16 ?_))
 (first | refine Z113 rfl ?_ | refine Z115 rfl ?_ | refine Z114 rfl (fun hlt => ?_) (fun hlt => ?_) | refine Z111 rfl (fun hlt => ?_) (fun hlt => ?_) | refine CW.cond rfl (fun hlt => ?_) (fun hlt => ?_))
 ·have hi : i < a0.extra.length + 9 := by omega
  have hl : 0 + i < (u8s (mkd 9 165#8 a0.extra i)).length := by rw [Z100]; omega
  (repeat (first | refine Z4 ?_ | refine Z1 ?_ | refine CW.block ?_ | refine CW.ret ?_ | refine CW.skip ?_ | refine CW.exit ?_ | refine Z9 ?_ | refine Z8 ?_ | refine Z27 ?_ | refine Z15 ?_ | refine Z101 rfl ?_ | refine Z16 ?_))
  refine Z2 (Z0 (Z3 rfl) rfl (Z0 (Z3 rfl) rfl ?_))
  (first | refine Z0 (RV.idx_o _ rfl rfl rfl rfl rfl (by first | rfl | assumption) (by omega)) rfl ?_ | refine Z0 (Z152 _ rfl rfl rfl rfl rfl (by first | rfl | assumption) (by omega)) rfl ?_ | refine Z0 (RV.idx_oz rfl rfl (by omega) rfl rfl (by first | rfl | assumption) (by omega)) rfl ?_ | refine Z0 (RV.idx_rz rfl rfl (by omega) rfl rfl (by first | rfl | assumption) (by omega)) rfl ?_)
  (first | refine Z28 (SV.store rfl (by first | rfl | assumption) rfl rfl rfl (by first | assumption | (simp; done) | (simp; omega) | omega)) ?_ | (refine OW.rot1 ?_; refine Z28 (SV.store rfl (by first | rfl | assumption) rfl rfl rfl (by first | assumption | (simp; done) | (simp; omega) | omega)) ?_) | (refine OW.rot2 ?_; refine Z28 (SV.store rfl (by first | rfl | assumption) rfl rfl rfl (by first | assumption | (simp; done) | (simp; omega) | omega)) ?_) | (refine OW.rot3 ?_; refine Z28 (SV.store rfl (by first | rfl | assumption) rfl rfl rfl (by first | assumption | (simp; done) | (simp; omega) | omega)) ?_) | (refine OW.rot4 ?_; refine Z28 (SV.store rfl (by first | rfl | assumption) rfl rfl rfl (by first | assumption | (simp; done) | (simp; omega) | omega)) ?_))
  refine Z6 ?_
  (repeat (first | refine Z4 ?_ | refine Z1 ?_ | refine CW.block ?_ | refine CW.ret ?_ | refine CW.skip ?_ | refine CW.exit ?_ | refine Z9 ?_ | refine Z8 ?_ | refine Z27 ?_ | refine Z15 ?_ | refine Z101 rfl ?_ | refine Z16 ?_))
  refine Z2 (Z0 (Z3 rfl) rfl (Z0 (RV.add rfl rfl (by omega)) rfl (Z0 (Z5 rfl) rfl (Z6 ?_))))
  (repeat (first | refine Z4 ?_ | refine Z1 ?_ | refine CW.block ?_ | refine CW.ret ?_ | refine CW.skip ?_ | refine CW.exit ?_ | refine Z9 ?_ | refine Z8 ?_ | refine Z27 ?_ | refine Z15 ?_ | refine Z101 rfl ?_ | refine Z16 ?_))
  refine QW.again (i + 1) ⟨by omega, by omega⟩ (by omega) ⟨rfl, rfl, rfl, rfl, trivial⟩ (fun _ m => ?_)
  rw [Nat.zero_add] at m
  rw [← mkd_set h1 hi, ← u8s_set']
  exact m
 ·have hi : i = a0.extra.length + 9 := by omega
  subst hi
  rw [mkd_end]
  (repeat (first | refine Z4 ?_ | refine Z1 ?_ | refine CW.block ?_ | refine CW.ret ?_ | refine CW.skip ?_ | refine CW.exit ?_ | refine Z9 ?_ | refine Z8 ?_ | refine Z27 ?_ | refine Z15 ?_ | refine Z101 rfl ?_ | refine Z16 ?_))
  refine Z2 (Z0 (Z3 rfl) rfl (Z0 (Z30 rfl rfl rfl rfl) rfl (Z0 (Z29 rfl (List.Mem.tail _ (List.Mem.tail _ Zh)) rfl rfl rfl hext) rfl (Z0 (RV.len rfl rfl) rfl ?_))))
  (first | refine Z0 (RV.cut_o _ rfl rfl rfl rfl rfl (by omega)) rfl ?_ | refine Z0 (RV.cut_hi _ rfl rfl rfl rfl rfl (by omega)) rfl ?_)
  refine Z0 (Z30 rfl rfl rfl rfl) rfl ?_
  refine OW.rot2 ?_; refine Z28 (SV.store rfl rfl rfl rfl rfl (by rw [Z137]; decide)) ?_; refine OW.cells ((a0.C (some ⟨b9, 0, none⟩) (a0.extra.length + 9)).C) (HdrC.C_extra_set (a0.C A c) _) ?_
  refine Z6 ?_
  (repeat (first | refine Z4 ?_ | refine Z1 ?_ | refine CW.block ?_ | refine CW.ret ?_ | refine CW.skip ?_ | refine CW.exit ?_ | refine Z9 ?_ | refine Z8 ?_ | refine Z27 ?_ | refine Z15 ?_ | refine Z101 rfl ?_ | refine Z16 ?_))
  refine Z2 (Z0 (Z22 rfl Zh rfl rfl rfl rfl Z137) rfl ?_)
  refine OW.rot2 ?_; refine Z28 (Z107 rfl rfl rfl zhdr_one rfl Z137 Z137) ?_
  refine Z6 ?_
  (repeat (first | refine Z4 ?_ | refine Z1 ?_ | refine CW.block ?_ | refine CW.ret ?_ | refine CW.skip ?_ | refine CW.exit ?_ | refine Z9 ?_ | refine Z8 ?_ | refine Z27 ?_ | refine Z15 ?_ | refine Z101 rfl ?_ | refine Z16 ?_))
  refine Z110 (rs := [.cell 2 38]) [.agg ((a0.C (some ⟨b9, 0, none⟩) (a0.extra.length + 9)).C).toArray] ((some b9, blk (u8s (a0.extra ++ List.replicate 9 165#8)) 5) :: (some b2, blk (a0.C (some ⟨b9, 0, none⟩) (a0.extra.length + 9)).C 38) :: []) rfl ?_ rfl ?_ ?_ _ (.inl rfl)
  ·exact ⟨⟨_, _, _, _, rfl, Zh, rfl, rfl, (by rw [Z137]; rfl), rfl⟩, trivial⟩
  ·exact ⟨b9, _, rfl, hb, ht, rfl, rfl⟩
  ·exact fun w m => m.pick [2, 0] 3 rfl rfl
theorem Z126 (w0 : World) (Φ : Ctx) (N : List Ent) (hΦ : ∀ w, Mem w0 w N → Φ w) (cs0_ : List Value) (a0 res0 : Hdr) (ha0 : HdrRd Φ cs0_ a0) (hf : waybilllaw19_twin a0 = some res0) : DoesG Tryd.prog 19 [.agg cs0_.toArray] w0 [] N (fun v G => ∃ B : List Ent, ∃ cr0 : List Value, (HdrRd (More w0 Φ B) cr0 res0) ∧ v = .agg cr0.toArray ∧ G = B) :=
 (waybilllaw19_twin_raw w0 Φ N hΦ cs0_ a0 res0 ha0 hf).mono fun v G ⟨b, B, h1, hb, ht, h2, h3⟩ => ⟨G, _, ⟨some ⟨b, 0, none⟩, a0.extra.length + 9, by rw [h1]; rfl, by
  rw [h1, h3]
  exact ⟨fun w q => by
   have := q.2.sublist (List.singleton_sublist.2 (List.mem_cons_self ..))
   rw [← u8s_app] at this
   exact this.rd0 (List.mem_cons_self ..) (fun e => nomatch e), fun _ => rfl, by rw [Z100]; omega, by omega, by omega⟩, by rw [h1]; exact ht⟩, h2, rfl⟩
end Go.Fw.Tryd
