/- Part of a proof over Ytmfeghmggcpngaa: rules and contracts that the law's text uses. No condition. -/
import Derived.Test.YtmfeghmggcpngaaBloB
namespace Go.Fw.Try
open Go Go.Proofs
set_option maxRecDepth 100000
set_option linter.unusedVariables false

theorem bloomMakes_does (w0 : World) (M : List Ent) (A : Option Addr) (ca : Nat) (xs : List Int) (hA : Mem.Says w0 M (fun w => Rd w A (i64s xs))) {la : Nat} (hla : xs.length = la) (hx : la ≤ 17592186044416) (hn : A = none → la = 0) :
    Does Try.prog 3 [.slice A la ca] w0 M (τ := Unit) (fun _ => True) (fun _ => .bool true) (fun q => M) := by
  refine Does.enter Try.func3 rfl Try.ntmps3 rfl ?_
  (repeat (first | refine CW.seq ?_ | refine QW.then_n ?_ | refine CW.block ?_ | refine CW.ret ?_ | refine CW.skip ?_ | refine CW.exit ?_ | refine QW.then_x ?_ | refine QW.then_r ?_ | refine QW.block_n ?_ | refine QW.block_xe ?_ | refine QW.block_xn rfl ?_ | refine QW.block_r ?_))
  refine CW.region ?_
  refine OW.rv (RV.assign rfl) rfl ?_
  refine OW.nil ?_
  (repeat (first | refine CW.seq ?_ | refine QW.then_n ?_ | refine CW.block ?_ | refine CW.ret ?_ | refine CW.skip ?_ | refine CW.exit ?_ | refine QW.then_x ?_ | refine QW.then_r ?_ | refine QW.block_n ?_ | refine QW.block_xe ?_ | refine QW.block_xn rfl ?_ | refine QW.block_r ?_))
  (repeat (first | refine CW.seq ?_ | refine QW.then_n ?_ | refine CW.block ?_ | refine CW.ret ?_ | refine CW.skip ?_ | refine CW.exit ?_ | refine QW.then_x ?_ | refine QW.then_r ?_ | refine QW.block_n ?_ | refine QW.block_xe ?_ | refine QW.block_xn rfl ?_ | refine QW.block_r ?_))
  refine CW.region ?_
  refine OW.rv (RV.move rfl) rfl ?_
  refine OW.rv (RV.len rfl rfl) rfl ?_
  refine OW.rv (RV.add rfl rfl (by omega)) rfl ?_
  refine OW.make (la + 1) (la + 1) rfl (by first | rfl | omega) rfl (by first | rfl | omega) rfl rfl rfl rfl (by omega) (by simp only [i3]; omega) (by omega) rfl (fun b13 => ?_)
  refine OW.rv (RV.assign rfl) rfl ?_
  refine OW.nil ?_
  (repeat (first | refine CW.seq ?_ | refine QW.then_n ?_ | refine CW.block ?_ | refine CW.ret ?_ | refine CW.skip ?_ | refine CW.exit ?_ | refine QW.then_x ?_ | refine QW.then_r ?_ | refine QW.block_n ?_ | refine QW.block_xe ?_ | refine QW.block_xn rfl ?_ | refine QW.block_r ?_))
  have hli : (i64s xs).length = la := by rw [i64s, List.length_map, hla]
  (repeat (first | refine CW.seq ?_ | refine QW.then_n ?_ | refine CW.block ?_ | refine CW.ret ?_ | refine CW.skip ?_ | refine CW.exit ?_ | refine QW.then_x ?_ | refine QW.then_r ?_ | refine QW.block_n ?_ | refine QW.block_xe ?_ | refine QW.block_xn rfl ?_ | refine QW.block_r ?_))
  refine CW.region ?_
  refine OW.rv (RV.move rfl) rfl ?_
  refine OW.rv (RV.move rfl) rfl ?_
  refine OW.copy rfl rfl rfl rfl (fun h => nomatch h) (by simp) (Mem.Says.cons hA) (by simp [hla]) (i64s_one xs) hn rfl ?_
  refine OW.nil ?_
  (repeat (first | refine CW.seq ?_ | refine QW.then_n ?_ | refine CW.block ?_ | refine CW.ret ?_ | refine CW.skip ?_ | refine CW.exit ?_ | refine QW.then_x ?_ | refine QW.then_r ?_ | refine QW.block_n ?_ | refine QW.block_xe ?_ | refine QW.block_xn rfl ?_ | refine QW.block_r ?_))
  refine CW.mem (M' := (some b13, blk (i64s xs ++ [.int .i64 0]) 3) :: M) (fun w m => by rw [← make_copy0 (i64s xs) (.int .i64 0) (n := la) (m := min la (la + 1)) hli (by omega)]; exact m) ?_
  have hl : 0 + la < (i64s xs ++ [Value.int .i64 0]).length := by simp [hli]
  (repeat (first | refine CW.seq ?_ | refine QW.then_n ?_ | refine CW.block ?_ | refine CW.ret ?_ | refine CW.skip ?_ | refine CW.exit ?_ | refine QW.then_x ?_ | refine QW.then_r ?_ | refine QW.block_n ?_ | refine QW.block_xe ?_ | refine QW.block_xn rfl ?_ | refine QW.block_r ?_))
  refine CW.region ?_
  refine OW.rv (RV.move rfl) rfl ?_
  refine OW.rv (RV.move rfl) rfl ?_
  refine OW.rv (RV.len rfl rfl) rfl ?_
  (first | refine OW.rv (RV.idx_o _ rfl rfl rfl rfl rfl (by first | rfl | assumption) (by omega)) rfl ?_ | refine OW.rv (RV.idx_r _ rfl rfl rfl rfl rfl (by first | rfl | assumption) (by omega)) rfl ?_ | refine OW.rv (RV.idx_oz rfl rfl (by omega) rfl rfl (by first | rfl | assumption) (by omega)) rfl ?_ | refine OW.rv (RV.idx_rz rfl rfl (by omega) rfl rfl (by first | rfl | assumption) (by omega)) rfl ?_)
  (first | refine OW.sv (SV.store rfl (by first | rfl | assumption) rfl rfl rfl (by first | assumption | (simp; done) | (simp; omega) | omega)) ?_ | (refine OW.rot1 ?_; refine OW.sv (SV.store rfl (by first | rfl | assumption) rfl rfl rfl (by first | assumption | (simp; done) | (simp; omega) | omega)) ?_) | (refine OW.rot2 ?_; refine OW.sv (SV.store rfl (by first | rfl | assumption) rfl rfl rfl (by first | assumption | (simp; done) | (simp; omega) | omega)) ?_) | (refine OW.rot3 ?_; refine OW.sv (SV.store rfl (by first | rfl | assumption) rfl rfl rfl (by first | assumption | (simp; done) | (simp; omega) | omega)) ?_) | (refine OW.rot4 ?_; refine OW.sv (SV.store rfl (by first | rfl | assumption) rfl rfl rfl (by first | assumption | (simp; done) | (simp; omega) | omega)) ?_))
  refine OW.nil ?_
  (repeat (first | refine CW.seq ?_ | refine QW.then_n ?_ | refine CW.block ?_ | refine CW.ret ?_ | refine CW.skip ?_ | refine CW.exit ?_ | refine QW.then_x ?_ | refine QW.then_r ?_ | refine QW.block_n ?_ | refine QW.block_xe ?_ | refine QW.block_xn rfl ?_ | refine QW.block_r ?_))
  refine CW.mem (M' := (some b13, blk (i64s xs ++ [.int .i64 (-164)]) 3) :: M) (fun w m => by rw [← set_end (i64s xs) [] (.int .i64 0) (.int .i64 (-164)) hli.symm]; exact m) ?_
  (repeat (first | refine CW.seq ?_ | refine QW.then_n ?_ | refine CW.block ?_ | refine CW.ret ?_ | refine CW.skip ?_ | refine CW.exit ?_ | refine QW.then_x ?_ | refine QW.then_r ?_ | refine QW.block_n ?_ | refine QW.block_xe ?_ | refine QW.block_xn rfl ?_ | refine QW.block_r ?_))
  refine CW.region ?_
  refine OW.rv (RV.move rfl) rfl ?_
  refine OW.rv (RV.move rfl) rfl ?_
  refine OW.rv (RV.len rfl rfl) rfl ?_
  (first | refine OW.rv (RV.cut_o _ rfl rfl rfl rfl rfl (by omega)) rfl ?_ | refine OW.rv (RV.cut_hi _ rfl rfl rfl rfl rfl (by omega)) rfl ?_)
  refine OW.rv (RV.assign rfl) rfl ?_
  refine OW.nil ?_
  (repeat (first | refine CW.seq ?_ | refine QW.then_n ?_ | refine CW.block ?_ | refine CW.ret ?_ | refine CW.skip ?_ | refine CW.exit ?_ | refine QW.then_x ?_ | refine QW.then_r ?_ | refine QW.block_n ?_ | refine QW.block_xe ?_ | refine QW.block_xn rfl ?_ | refine QW.block_r ?_))
  have hC : ∀ (ys : List Int) (M' : List Ent), (some b13, blk (i64s ys ++ [Value.int .i64 (-164)]) 3) ∈ M' → Mem.Says w0 M' (fun w => Rd w (some ⟨b13, 0, none⟩) (i64s ys)) := fun ys M' he w m => m.rd0 he (fun h => nomatch h)
  (repeat (first | refine CW.seq ?_ | refine QW.then_n ?_ | refine CW.block ?_ | refine CW.ret ?_ | refine CW.skip ?_ | refine CW.exit ?_ | refine QW.then_x ?_ | refine QW.then_r ?_ | refine QW.block_n ?_ | refine QW.block_xe ?_ | refine QW.block_xn rfl ?_ | refine QW.block_r ?_))
  refine CW.region ?_
  refine OW.rv (RV.move rfl) rfl ?_
  refine OW.call Try.call6 rfl (make_does w0 _ _ _ xs (hC xs _ (List.Mem.head _)) hla (by omega)) rfl (fun u hu => ?_)
  refine OW.rv (RV.move rfl) rfl ?_
  refine OW.rv (RV.extract rfl rfl) rfl ?_
  refine OW.rv (RV.extract rfl rfl) rfl ?_
  refine OW.alloc (l := u8s (List.replicate 256 0#8)) rfl (by rw [← u8s_rep']; rfl) rfl (fun b5 => ?_)
  (first | refine OW.sv (SV.storeW rfl (by first | rfl | assumption) rfl (by first | assumption | exact u8s_one _ | exact i64s_one _ | exact u64s_one _ | exact u32s_one _) rfl (by first | assumption | rfl | (simp; done) | (simp [*]; done) | (simp [*]; rfl)) (by first | assumption | rfl | (simp; done) | (simp [*]; done) | (simp [*]; rfl))) ?_ | (refine OW.rot1 ?_; refine OW.sv (SV.storeW rfl (by first | rfl | assumption) rfl (by first | assumption | exact u8s_one _ | exact i64s_one _ | exact u64s_one _ | exact u32s_one _) rfl (by first | assumption | rfl | (simp; done) | (simp [*]; done) | (simp [*]; rfl)) (by first | assumption | rfl | (simp; done) | (simp [*]; done) | (simp [*]; rfl))) ?_) | (refine OW.rot2 ?_; refine OW.sv (SV.storeW rfl (by first | rfl | assumption) rfl (by first | assumption | exact u8s_one _ | exact i64s_one _ | exact u64s_one _ | exact u32s_one _) rfl (by first | assumption | rfl | (simp; done) | (simp [*]; done) | (simp [*]; rfl)) (by first | assumption | rfl | (simp; done) | (simp [*]; done) | (simp [*]; rfl))) ?_) | (refine OW.rot3 ?_; refine OW.sv (SV.storeW rfl (by first | rfl | assumption) rfl (by first | assumption | exact u8s_one _ | exact i64s_one _ | exact u64s_one _ | exact u32s_one _) rfl (by first | assumption | rfl | (simp; done) | (simp [*]; done) | (simp [*]; rfl)) (by first | assumption | rfl | (simp; done) | (simp [*]; done) | (simp [*]; rfl))) ?_) | (refine OW.rot4 ?_; refine OW.sv (SV.storeW rfl (by first | rfl | assumption) rfl (by first | assumption | exact u8s_one _ | exact i64s_one _ | exact u64s_one _ | exact u32s_one _) rfl (by first | assumption | rfl | (simp; done) | (simp [*]; done) | (simp [*]; rfl)) (by first | assumption | rfl | (simp; done) | (simp [*]; done) | (simp [*]; rfl))) ?_) | (refine OW.rot5 ?_; refine OW.sv (SV.storeW rfl (by first | rfl | assumption) rfl (by first | assumption | exact u8s_one _ | exact i64s_one _ | exact u64s_one _ | exact u32s_one _) rfl (by first | assumption | rfl | (simp; done) | (simp [*]; done) | (simp [*]; rfl)) (by first | assumption | rfl | (simp; done) | (simp [*]; done) | (simp [*]; rfl))) ?_) | (refine OW.rot6 ?_; refine OW.sv (SV.storeW rfl (by first | rfl | assumption) rfl (by first | assumption | exact u8s_one _ | exact i64s_one _ | exact u64s_one _ | exact u32s_one _) rfl (by first | assumption | rfl | (simp; done) | (simp [*]; done) | (simp [*]; rfl)) (by first | assumption | rfl | (simp; done) | (simp [*]; done) | (simp [*]; rfl))) ?_))
  refine OW.rv (RV.assign rfl) rfl ?_
  refine OW.nil ?_
  (repeat (first | refine CW.seq ?_ | refine QW.then_n ?_ | refine CW.block ?_ | refine CW.ret ?_ | refine CW.skip ?_ | refine CW.exit ?_ | refine QW.then_x ?_ | refine QW.then_r ?_ | refine QW.block_n ?_ | refine QW.block_xe ?_ | refine QW.block_xn rfl ?_ | refine QW.block_r ?_))
  (repeat (first | refine CW.seq ?_ | refine QW.then_n ?_ | refine CW.block ?_ | refine CW.ret ?_ | refine CW.skip ?_ | refine CW.exit ?_ | refine QW.then_x ?_ | refine QW.then_r ?_ | refine QW.block_n ?_ | refine QW.block_xe ?_ | refine QW.block_xn rfl ?_ | refine QW.block_r ?_))
  refine CW.region ?_
  refine OW.rv (RV.move rfl) rfl ?_
  refine OW.call Try.call7 rfl (rmake_does w0 _ _ _ xs (Mem.Says.cons (Mem.Says.cons hA)) hla (by omega)) rfl (fun u hu => ?_)
  refine OW.rv (RV.move rfl) rfl ?_
  refine OW.rv (RV.extract rfl rfl) rfl ?_
  refine OW.rv (RV.extract rfl rfl) rfl ?_
  refine OW.alloc (l := u8s (List.replicate 256 0#8)) rfl (by rw [← u8s_rep']; rfl) rfl (fun b7 => ?_)
  (first | refine OW.sv (SV.storeW rfl (by first | rfl | assumption) rfl (by first | assumption | exact u8s_one _ | exact i64s_one _ | exact u64s_one _ | exact u32s_one _) rfl (by first | assumption | rfl | (simp; done) | (simp [*]; done) | (simp [*]; rfl)) (by first | assumption | rfl | (simp; done) | (simp [*]; done) | (simp [*]; rfl))) ?_ | (refine OW.rot1 ?_; refine OW.sv (SV.storeW rfl (by first | rfl | assumption) rfl (by first | assumption | exact u8s_one _ | exact i64s_one _ | exact u64s_one _ | exact u32s_one _) rfl (by first | assumption | rfl | (simp; done) | (simp [*]; done) | (simp [*]; rfl)) (by first | assumption | rfl | (simp; done) | (simp [*]; done) | (simp [*]; rfl))) ?_) | (refine OW.rot2 ?_; refine OW.sv (SV.storeW rfl (by first | rfl | assumption) rfl (by first | assumption | exact u8s_one _ | exact i64s_one _ | exact u64s_one _ | exact u32s_one _) rfl (by first | assumption | rfl | (simp; done) | (simp [*]; done) | (simp [*]; rfl)) (by first | assumption | rfl | (simp; done) | (simp [*]; done) | (simp [*]; rfl))) ?_) | (refine OW.rot3 ?_; refine OW.sv (SV.storeW rfl (by first | rfl | assumption) rfl (by first | assumption | exact u8s_one _ | exact i64s_one _ | exact u64s_one _ | exact u32s_one _) rfl (by first | assumption | rfl | (simp; done) | (simp [*]; done) | (simp [*]; rfl)) (by first | assumption | rfl | (simp; done) | (simp [*]; done) | (simp [*]; rfl))) ?_) | (refine OW.rot4 ?_; refine OW.sv (SV.storeW rfl (by first | rfl | assumption) rfl (by first | assumption | exact u8s_one _ | exact i64s_one _ | exact u64s_one _ | exact u32s_one _) rfl (by first | assumption | rfl | (simp; done) | (simp [*]; done) | (simp [*]; rfl)) (by first | assumption | rfl | (simp; done) | (simp [*]; done) | (simp [*]; rfl))) ?_) | (refine OW.rot5 ?_; refine OW.sv (SV.storeW rfl (by first | rfl | assumption) rfl (by first | assumption | exact u8s_one _ | exact i64s_one _ | exact u64s_one _ | exact u32s_one _) rfl (by first | assumption | rfl | (simp; done) | (simp [*]; done) | (simp [*]; rfl)) (by first | assumption | rfl | (simp; done) | (simp [*]; done) | (simp [*]; rfl))) ?_) | (refine OW.rot6 ?_; refine OW.sv (SV.storeW rfl (by first | rfl | assumption) rfl (by first | assumption | exact u8s_one _ | exact i64s_one _ | exact u64s_one _ | exact u32s_one _) rfl (by first | assumption | rfl | (simp; done) | (simp [*]; done) | (simp [*]; rfl)) (by first | assumption | rfl | (simp; done) | (simp [*]; done) | (simp [*]; rfl))) ?_))
  refine OW.rv (RV.assign rfl) rfl ?_
  refine OW.nil ?_
  (repeat (first | refine CW.seq ?_ | refine QW.then_n ?_ | refine CW.block ?_ | refine CW.ret ?_ | refine CW.skip ?_ | refine CW.exit ?_ | refine QW.then_x ?_ | refine QW.then_r ?_ | refine QW.block_n ?_ | refine QW.block_xe ?_ | refine QW.block_xn rfl ?_ | refine QW.block_r ?_))
  have hg : (i64s xs ++ [Value.int .i64 (-164)])[0 + la]? = some (.int .i64 (-164)) := by rw [Nat.zero_add, List.getElem?_append_right (by omega), hli]; simp
  (repeat (first | refine CW.seq ?_ | refine QW.then_n ?_ | refine CW.block ?_ | refine CW.ret ?_ | refine CW.skip ?_ | refine CW.exit ?_ | refine QW.then_x ?_ | refine QW.then_r ?_ | refine QW.block_n ?_ | refine QW.block_xe ?_ | refine QW.block_xn rfl ?_ | refine QW.block_r ?_))
  refine CW.region ?_
  refine OW.rv (RV.loadW rfl (by repeat (first | exact List.Mem.head _ | refine List.Mem.tail _ ?_)) (by first | rfl | assumption) rfl rfl rfl (by first | assumption | rfl | (simp; done) | (simp [*]; done) | (simp [*]; rfl))) rfl ?_
  refine OW.rv (RV.loadW rfl (by repeat (first | exact List.Mem.head _ | refine List.Mem.tail _ ?_)) (by first | rfl | assumption) rfl rfl rfl (by first | assumption | rfl | (simp; done) | (simp [*]; done) | (simp [*]; rfl))) rfl ?_
  (first | refine OW.rv (RV.neA8_f rfl rfl rfl rfl rfl rfl (by first | assumption | rfl | (simp; done) | (simp [*]; done) | (simp [*]; rfl)) (by first | rfl | assumption)) rfl ?_ | refine OW.rv (RV.neA8 rfl rfl rfl rfl rfl rfl (by first | assumption | rfl | (simp; done) | (simp [*]; done) | (simp [*]; rfl)) (by first | assumption | rfl | (simp; done) | (simp [*]; done) | (simp [*]; rfl))) rfl ?_)
  refine OW.rv (RV.move rfl) rfl ?_
  (first | (refine OW.want rfl ?_; refine OW.rv (RV.move rfl) rfl ?_) | refine OW.skip rfl rfl rfl ?_)
  (first | (refine OW.want rfl ?_; refine OW.call Try.call8 rfl (num_does w0 _ _) rfl (fun u hu => ?_)) | refine OW.skip rfl rfl rfl ?_)
  (first | (refine OW.want rfl ?_; refine OW.rv (RV.move rfl) rfl ?_) | refine OW.skip rfl rfl rfl ?_)
  (first | (refine OW.want rfl ?_; (first | refine OW.rv (RV.neq_t rfl rfl (by omega)) rfl ?_ | refine OW.rv (RV.neq_f rfl rfl (by omega)) rfl ?_ | refine OW.rv (RV.neq rfl rfl) rfl ?_)) | refine OW.skip rfl rfl rfl ?_)
  (first | refine OW.rv (RV.pick_t rfl rfl rfl) rfl ?_ | refine OW.rv (RV.pick_f rfl rfl rfl) rfl ?_ | refine OW.rv (RV.pick rfl rfl rfl) rfl ?_)
  refine OW.rv (RV.move rfl) rfl ?_
  (first | (refine OW.want rfl ?_; refine OW.rv (RV.move rfl) rfl ?_) | refine OW.skip rfl rfl rfl ?_)
  (first | (refine OW.want rfl ?_; refine OW.rv (RV.move rfl) rfl ?_) | refine OW.skip rfl rfl rfl ?_)
  (first | (refine OW.want rfl ?_; refine OW.call Try.call9 rfl (equal_true w0 _ _ _ _ _ xs (hC xs _ (by simp)) (Mem.Says.cons (Mem.Says.cons (Mem.Says.cons hA))) hla hla (by omega)) rfl (fun u hu => ?_)) | refine OW.skip rfl rfl rfl ?_)
  (first | (refine OW.want rfl ?_; refine OW.rv (RV.not rfl) rfl ?_) | refine OW.skip rfl rfl rfl ?_)
  (first | refine OW.rv (RV.pick_t rfl rfl rfl) rfl ?_ | refine OW.rv (RV.pick_f rfl rfl rfl) rfl ?_ | refine OW.rv (RV.pick rfl rfl rfl) rfl ?_)
  refine OW.rv (RV.move rfl) rfl ?_
  (first | (refine OW.want rfl ?_; refine OW.rv (RV.move rfl) rfl ?_) | refine OW.skip rfl rfl rfl ?_)
  (first | (refine OW.want rfl ?_; refine OW.rv (RV.move rfl) rfl ?_) | refine OW.skip rfl rfl rfl ?_)
  (first | (refine OW.want rfl ?_; refine OW.rv (RV.len rfl rfl) rfl ?_) | refine OW.skip rfl rfl rfl ?_)
  (first | (refine OW.want rfl ?_; (first | refine OW.rv (RV.idx_o _ rfl rfl rfl rfl rfl (by first | rfl | assumption) (by omega)) rfl ?_ | refine OW.rv (RV.idx_r _ rfl rfl rfl rfl rfl (by first | rfl | assumption) (by omega)) rfl ?_ | refine OW.rv (RV.idx_oz rfl rfl (by omega) rfl rfl (by first | rfl | assumption) (by omega)) rfl ?_ | refine OW.rv (RV.idx_rz rfl rfl (by omega) rfl rfl (by first | rfl | assumption) (by omega)) rfl ?_)) | refine OW.skip rfl rfl rfl ?_)
  (first | (refine OW.want rfl ?_; (first | refine OW.rv (RV.load rfl (by repeat (first | exact List.Mem.head _ | refine List.Mem.tail _ ?_)) (by first | rfl | assumption) rfl rfl (by first | rfl | assumption)) rfl ?_ | refine OW.rv (RV.load_at rfl rfl rfl (by repeat (first | assumption | refine Mem.Says.cons ?_))) rfl ?_)) | refine OW.skip rfl rfl rfl ?_)
  (first | (refine OW.want rfl ?_; (first | refine OW.rv (RV.neq_t rfl rfl (by omega)) rfl ?_ | refine OW.rv (RV.neq_f rfl rfl (by omega)) rfl ?_ | refine OW.rv (RV.neq rfl rfl) rfl ?_)) | refine OW.skip rfl rfl rfl ?_)
  (first | refine OW.rv (RV.pick_t rfl rfl rfl) rfl ?_ | refine OW.rv (RV.pick_f rfl rfl rfl) rfl ?_ | refine OW.rv (RV.pick rfl rfl rfl) rfl ?_)
  refine OW.nil ?_
  (repeat (first | refine CW.seq ?_ | refine QW.then_n ?_ | refine CW.block ?_ | refine CW.ret ?_ | refine CW.skip ?_ | refine CW.exit ?_ | refine QW.then_x ?_ | refine QW.then_r ?_ | refine QW.block_n ?_ | refine QW.block_xe ?_ | refine QW.block_xn rfl ?_ | refine QW.block_r ?_))
  (first | refine CW.cond_t rfl ?_ | refine CW.cond_f rfl ?_ | refine CW.cond_p rfl (fun hq => ?_) (fun hq => ?_) | refine CW.cond_np rfl (fun hq => ?_) (fun hq => ?_) | refine CW.cond rfl (fun hq => ?_) (fun hq => ?_))
  (repeat (first | refine CW.seq ?_ | refine QW.then_n ?_ | refine CW.block ?_ | refine CW.ret ?_ | refine CW.skip ?_ | refine CW.exit ?_ | refine QW.then_x ?_ | refine QW.then_r ?_ | refine QW.block_n ?_ | refine QW.block_xe ?_ | refine QW.block_xn rfl ?_ | refine QW.block_r ?_))
  refine CW.region ?_
  refine OW.rv (RV.assign rfl) rfl ?_
  refine OW.nil ?_
  (repeat (first | refine CW.seq ?_ | refine QW.then_n ?_ | refine CW.block ?_ | refine CW.ret ?_ | refine CW.skip ?_ | refine CW.exit ?_ | refine QW.then_x ?_ | refine QW.then_r ?_ | refine QW.block_n ?_ | refine QW.block_xe ?_ | refine QW.block_xn rfl ?_ | refine QW.block_r ?_))
  refine CW.loop (σ := Nat × List Int) (fun s => s.1 ≤ la ∧ s.2.length = la) (fun s => [(0, .slice A la ca), (4, sl (some b13) 0 la (la + 1)), (5, ptr (some b5) 0), (7, ptr (some b7) 0), (9, .int .i64 (s.1 : Int))])
    (fun s => (some b13, blk (i64s s.2 ++ [.int .i64 (-164)]) 3) :: (some b7, blk (u8s (mkB xs)) 24) :: (some b5, blk (u8s (mkB xs)) 24) :: M) (fun s => la - s.1) (0, xs) ⟨by simp, hla⟩ ⟨rfl, rfl, rfl, rfl, rfl, trivial⟩ (fun _ m => m.rot2) ?_
  rintro ⟨i, ys⟩ ⟨hi, hy⟩
  dsimp only at hi hy ⊢
  (repeat (first | refine CW.seq ?_ | refine QW.then_n ?_ | refine CW.block ?_ | refine CW.ret ?_ | refine CW.skip ?_ | refine CW.exit ?_ | refine QW.then_x ?_ | refine QW.then_r ?_ | refine QW.block_n ?_ | refine QW.block_xe ?_ | refine QW.block_xn rfl ?_ | refine QW.block_r ?_))
  refine CW.region ?_
  refine OW.rv (RV.move rfl) rfl ?_
  refine OW.rv (RV.move rfl) rfl ?_
  refine OW.rv (RV.len rfl rfl) rfl ?_
  refine OW.rv (RV.lss rfl rfl) rfl ?_
  refine OW.nil ?_
  (repeat (first | refine CW.seq ?_ | refine QW.then_n ?_ | refine CW.block ?_ | refine CW.ret ?_ | refine CW.skip ?_ | refine CW.exit ?_ | refine QW.then_x ?_ | refine QW.then_r ?_ | refine QW.block_n ?_ | refine QW.block_xe ?_ | refine QW.block_xn rfl ?_ | refine QW.block_r ?_))
  (first | refine CW.cond_t rfl ?_ | refine CW.cond_f rfl ?_ | refine CW.cond_p rfl (fun hlt => ?_) (fun hlt => ?_) | refine CW.cond_np rfl (fun hlt => ?_) (fun hlt => ?_) | refine CW.cond rfl (fun hlt => ?_) (fun hlt => ?_))
  · have hl : 0 + i < (i64s ys ++ [Value.int .i64 (-164)]).length := by simp [i64s, hy]; omega
    (repeat (first | refine CW.seq ?_ | refine QW.then_n ?_ | refine CW.block ?_ | refine CW.ret ?_ | refine CW.skip ?_ | refine CW.exit ?_ | refine QW.then_x ?_ | refine QW.then_r ?_ | refine QW.block_n ?_ | refine QW.block_xe ?_ | refine QW.block_xn rfl ?_ | refine QW.block_r ?_))
    refine CW.region ?_
    refine OW.rv (RV.move rfl) rfl ?_
    refine OW.rv (RV.move rfl) rfl ?_
    refine OW.rv (RV.move rfl) rfl ?_
    refine OW.rv (RV.mul rfl rfl (by omega)) rfl ?_
    (first | refine OW.rv (RV.idx_o _ rfl rfl rfl rfl rfl (by first | rfl | assumption) (by omega)) rfl ?_ | refine OW.rv (RV.idx_r _ rfl rfl rfl rfl rfl (by first | rfl | assumption) (by omega)) rfl ?_ | refine OW.rv (RV.idx_oz rfl rfl (by omega) rfl rfl (by first | rfl | assumption) (by omega)) rfl ?_ | refine OW.rv (RV.idx_rz rfl rfl (by omega) rfl rfl (by first | rfl | assumption) (by omega)) rfl ?_)
    (first | refine OW.sv (SV.store rfl (by first | rfl | assumption) rfl rfl rfl (by first | assumption | (simp; done) | (simp; omega) | omega)) ?_ | (refine OW.rot1 ?_; refine OW.sv (SV.store rfl (by first | rfl | assumption) rfl rfl rfl (by first | assumption | (simp; done) | (simp; omega) | omega)) ?_) | (refine OW.rot2 ?_; refine OW.sv (SV.store rfl (by first | rfl | assumption) rfl rfl rfl (by first | assumption | (simp; done) | (simp; omega) | omega)) ?_) | (refine OW.rot3 ?_; refine OW.sv (SV.store rfl (by first | rfl | assumption) rfl rfl rfl (by first | assumption | (simp; done) | (simp; omega) | omega)) ?_) | (refine OW.rot4 ?_; refine OW.sv (SV.store rfl (by first | rfl | assumption) rfl rfl rfl (by first | assumption | (simp; done) | (simp; omega) | omega)) ?_))
    refine OW.nil ?_
    (repeat (first | refine CW.seq ?_ | refine QW.then_n ?_ | refine CW.block ?_ | refine CW.ret ?_ | refine CW.skip ?_ | refine CW.exit ?_ | refine QW.then_x ?_ | refine QW.then_r ?_ | refine QW.block_n ?_ | refine QW.block_xe ?_ | refine QW.block_xn rfl ?_ | refine QW.block_r ?_))
    (repeat (first | refine CW.seq ?_ | refine QW.then_n ?_ | refine CW.block ?_ | refine CW.ret ?_ | refine CW.skip ?_ | refine CW.exit ?_ | refine QW.then_x ?_ | refine QW.then_r ?_ | refine QW.block_n ?_ | refine QW.block_xe ?_ | refine QW.block_xn rfl ?_ | refine QW.block_r ?_))
    refine CW.region ?_
    refine OW.rv (RV.move rfl) rfl ?_
    refine OW.rv (RV.add rfl rfl (by omega)) rfl ?_
    refine OW.rv (RV.assign rfl) rfl ?_
    refine OW.nil ?_
    (repeat (first | refine CW.seq ?_ | refine QW.then_n ?_ | refine CW.block ?_ | refine CW.ret ?_ | refine CW.skip ?_ | refine CW.exit ?_ | refine QW.then_x ?_ | refine QW.then_r ?_ | refine QW.block_n ?_ | refine QW.block_xe ?_ | refine QW.block_xn rfl ?_ | refine QW.block_r ?_))
    refine QW.again (i + 1, ys.set i (7 * (i : Int))) ⟨by show i + 1 ≤ la; omega, by simp [hy]⟩ (by show la - (i + 1) < la - i; omega) ⟨rfl, rfl, rfl, rfl, rfl, trivial⟩ (fun _ m => ?_)
    rw [i64s_set_left (by omega)] at m
    exact m
  · (repeat (first | refine CW.seq ?_ | refine QW.then_n ?_ | refine CW.block ?_ | refine CW.ret ?_ | refine CW.skip ?_ | refine CW.exit ?_ | refine QW.then_x ?_ | refine QW.then_r ?_ | refine QW.block_n ?_ | refine QW.block_xe ?_ | refine QW.block_xn rfl ?_ | refine QW.block_r ?_))
    refine CW.region ?_
    refine OW.rv (RV.move rfl) rfl ?_
    refine OW.call Try.call6 rfl (make_does w0 _ _ _ ys (hC ys _ (List.Mem.head _)) hy (by omega)) rfl (fun u hu => ?_)
    refine OW.rv (RV.move rfl) rfl ?_
    refine OW.rv (RV.extract rfl rfl) rfl ?_
    refine OW.rv (RV.extract rfl rfl) rfl ?_
    (first | refine OW.sv (SV.storeW rfl (by first | rfl | assumption) rfl (by first | assumption | exact u8s_one _ | exact i64s_one _ | exact u64s_one _ | exact u32s_one _) rfl (by first | assumption | rfl | (simp; done) | (simp [*]; done) | (simp [*]; rfl)) (by first | assumption | rfl | (simp; done) | (simp [*]; done) | (simp [*]; rfl))) ?_ | (refine OW.rot1 ?_; refine OW.sv (SV.storeW rfl (by first | rfl | assumption) rfl (by first | assumption | exact u8s_one _ | exact i64s_one _ | exact u64s_one _ | exact u32s_one _) rfl (by first | assumption | rfl | (simp; done) | (simp [*]; done) | (simp [*]; rfl)) (by first | assumption | rfl | (simp; done) | (simp [*]; done) | (simp [*]; rfl))) ?_) | (refine OW.rot2 ?_; refine OW.sv (SV.storeW rfl (by first | rfl | assumption) rfl (by first | assumption | exact u8s_one _ | exact i64s_one _ | exact u64s_one _ | exact u32s_one _) rfl (by first | assumption | rfl | (simp; done) | (simp [*]; done) | (simp [*]; rfl)) (by first | assumption | rfl | (simp; done) | (simp [*]; done) | (simp [*]; rfl))) ?_) | (refine OW.rot3 ?_; refine OW.sv (SV.storeW rfl (by first | rfl | assumption) rfl (by first | assumption | exact u8s_one _ | exact i64s_one _ | exact u64s_one _ | exact u32s_one _) rfl (by first | assumption | rfl | (simp; done) | (simp [*]; done) | (simp [*]; rfl)) (by first | assumption | rfl | (simp; done) | (simp [*]; done) | (simp [*]; rfl))) ?_) | (refine OW.rot4 ?_; refine OW.sv (SV.storeW rfl (by first | rfl | assumption) rfl (by first | assumption | exact u8s_one _ | exact i64s_one _ | exact u64s_one _ | exact u32s_one _) rfl (by first | assumption | rfl | (simp; done) | (simp [*]; done) | (simp [*]; rfl)) (by first | assumption | rfl | (simp; done) | (simp [*]; done) | (simp [*]; rfl))) ?_) | (refine OW.rot5 ?_; refine OW.sv (SV.storeW rfl (by first | rfl | assumption) rfl (by first | assumption | exact u8s_one _ | exact i64s_one _ | exact u64s_one _ | exact u32s_one _) rfl (by first | assumption | rfl | (simp; done) | (simp [*]; done) | (simp [*]; rfl)) (by first | assumption | rfl | (simp; done) | (simp [*]; done) | (simp [*]; rfl))) ?_) | (refine OW.rot6 ?_; refine OW.sv (SV.storeW rfl (by first | rfl | assumption) rfl (by first | assumption | exact u8s_one _ | exact i64s_one _ | exact u64s_one _ | exact u32s_one _) rfl (by first | assumption | rfl | (simp; done) | (simp [*]; done) | (simp [*]; rfl)) (by first | assumption | rfl | (simp; done) | (simp [*]; done) | (simp [*]; rfl))) ?_))
    refine OW.rv (RV.assign rfl) rfl ?_
    refine OW.nil ?_
    (repeat (first | refine CW.seq ?_ | refine QW.then_n ?_ | refine CW.block ?_ | refine CW.ret ?_ | refine CW.skip ?_ | refine CW.exit ?_ | refine QW.then_x ?_ | refine QW.then_r ?_ | refine QW.block_n ?_ | refine QW.block_xe ?_ | refine QW.block_xn rfl ?_ | refine QW.block_r ?_))
    (repeat (first | refine CW.seq ?_ | refine QW.then_n ?_ | refine CW.block ?_ | refine CW.ret ?_ | refine CW.skip ?_ | refine CW.exit ?_ | refine QW.then_x ?_ | refine QW.then_r ?_ | refine QW.block_n ?_ | refine QW.block_xe ?_ | refine QW.block_xn rfl ?_ | refine QW.block_r ?_))
    refine CW.region ?_
    refine OW.rv (RV.move rfl) rfl ?_
    refine OW.call Try.call7 rfl (rmake_does w0 _ _ _ ys (hC ys _ (by simp)) hy (by omega)) rfl (fun u hu => ?_)
    refine OW.rv (RV.move rfl) rfl ?_
    refine OW.rv (RV.extract rfl rfl) rfl ?_
    refine OW.rv (RV.extract rfl rfl) rfl ?_
    (first | refine OW.sv (SV.storeW rfl (by first | rfl | assumption) rfl (by first | assumption | exact u8s_one _ | exact i64s_one _ | exact u64s_one _ | exact u32s_one _) rfl (by first | assumption | rfl | (simp; done) | (simp [*]; done) | (simp [*]; rfl)) (by first | assumption | rfl | (simp; done) | (simp [*]; done) | (simp [*]; rfl))) ?_ | (refine OW.rot1 ?_; refine OW.sv (SV.storeW rfl (by first | rfl | assumption) rfl (by first | assumption | exact u8s_one _ | exact i64s_one _ | exact u64s_one _ | exact u32s_one _) rfl (by first | assumption | rfl | (simp; done) | (simp [*]; done) | (simp [*]; rfl)) (by first | assumption | rfl | (simp; done) | (simp [*]; done) | (simp [*]; rfl))) ?_) | (refine OW.rot2 ?_; refine OW.sv (SV.storeW rfl (by first | rfl | assumption) rfl (by first | assumption | exact u8s_one _ | exact i64s_one _ | exact u64s_one _ | exact u32s_one _) rfl (by first | assumption | rfl | (simp; done) | (simp [*]; done) | (simp [*]; rfl)) (by first | assumption | rfl | (simp; done) | (simp [*]; done) | (simp [*]; rfl))) ?_) | (refine OW.rot3 ?_; refine OW.sv (SV.storeW rfl (by first | rfl | assumption) rfl (by first | assumption | exact u8s_one _ | exact i64s_one _ | exact u64s_one _ | exact u32s_one _) rfl (by first | assumption | rfl | (simp; done) | (simp [*]; done) | (simp [*]; rfl)) (by first | assumption | rfl | (simp; done) | (simp [*]; done) | (simp [*]; rfl))) ?_) | (refine OW.rot4 ?_; refine OW.sv (SV.storeW rfl (by first | rfl | assumption) rfl (by first | assumption | exact u8s_one _ | exact i64s_one _ | exact u64s_one _ | exact u32s_one _) rfl (by first | assumption | rfl | (simp; done) | (simp [*]; done) | (simp [*]; rfl)) (by first | assumption | rfl | (simp; done) | (simp [*]; done) | (simp [*]; rfl))) ?_) | (refine OW.rot5 ?_; refine OW.sv (SV.storeW rfl (by first | rfl | assumption) rfl (by first | assumption | exact u8s_one _ | exact i64s_one _ | exact u64s_one _ | exact u32s_one _) rfl (by first | assumption | rfl | (simp; done) | (simp [*]; done) | (simp [*]; rfl)) (by first | assumption | rfl | (simp; done) | (simp [*]; done) | (simp [*]; rfl))) ?_) | (refine OW.rot6 ?_; refine OW.sv (SV.storeW rfl (by first | rfl | assumption) rfl (by first | assumption | exact u8s_one _ | exact i64s_one _ | exact u64s_one _ | exact u32s_one _) rfl (by first | assumption | rfl | (simp; done) | (simp [*]; done) | (simp [*]; rfl)) (by first | assumption | rfl | (simp; done) | (simp [*]; done) | (simp [*]; rfl))) ?_))
    refine OW.rv (RV.assign rfl) rfl ?_
    refine OW.nil ?_
    (repeat (first | refine CW.seq ?_ | refine QW.then_n ?_ | refine CW.block ?_ | refine CW.ret ?_ | refine CW.skip ?_ | refine CW.exit ?_ | refine QW.then_x ?_ | refine QW.then_r ?_ | refine QW.block_n ?_ | refine QW.block_xe ?_ | refine QW.block_xn rfl ?_ | refine QW.block_r ?_))
    (repeat (first | refine CW.seq ?_ | refine QW.then_n ?_ | refine CW.block ?_ | refine CW.ret ?_ | refine CW.skip ?_ | refine CW.exit ?_ | refine QW.then_x ?_ | refine QW.then_r ?_ | refine QW.block_n ?_ | refine QW.block_xe ?_ | refine QW.block_xn rfl ?_ | refine QW.block_r ?_))
    refine CW.region ?_
    refine OW.rv (RV.loadW rfl (by repeat (first | exact List.Mem.head _ | refine List.Mem.tail _ ?_)) (by first | rfl | assumption) rfl rfl rfl (by first | assumption | rfl | (simp; done) | (simp [*]; done) | (simp [*]; rfl))) rfl ?_
    refine OW.rv (RV.loadW rfl (by repeat (first | exact List.Mem.head _ | refine List.Mem.tail _ ?_)) (by first | rfl | assumption) rfl rfl rfl (by first | assumption | rfl | (simp; done) | (simp [*]; done) | (simp [*]; rfl))) rfl ?_
    (first | refine OW.rv (RV.eqA8_t rfl rfl rfl rfl rfl rfl (by first | assumption | rfl | (simp; done) | (simp [*]; done) | (simp [*]; rfl)) (by first | rfl | assumption)) rfl ?_ | refine OW.rv (RV.eqA8 rfl rfl rfl rfl rfl rfl (by first | assumption | rfl | (simp; done) | (simp [*]; done) | (simp [*]; rfl)) (by first | assumption | rfl | (simp; done) | (simp [*]; done) | (simp [*]; rfl))) rfl ?_)
    refine OW.rv (RV.move rfl) rfl ?_
    (first | (refine OW.want rfl ?_; refine OW.rv (RV.move rfl) rfl ?_) | refine OW.skip rfl rfl rfl ?_)
    (first | (refine OW.want rfl ?_; refine OW.call Try.call8 rfl (num_does w0 _ _) rfl (fun u hu => ?_)) | refine OW.skip rfl rfl rfl ?_)
    (first | (refine OW.want rfl ?_; refine OW.rv (RV.move rfl) rfl ?_) | refine OW.skip rfl rfl rfl ?_)
    (first | (refine OW.want rfl ?_; (first | refine OW.rv (RV.eql_t rfl rfl (by omega)) rfl ?_ | refine OW.rv (RV.eql_f rfl rfl (by omega)) rfl ?_ | refine OW.rv (RV.eql rfl rfl) rfl ?_)) | refine OW.skip rfl rfl rfl ?_)
    (first | refine OW.rv (RV.pick_t rfl rfl rfl) rfl ?_ | refine OW.rv (RV.pick_f rfl rfl rfl) rfl ?_ | refine OW.rv (RV.pick rfl rfl rfl) rfl ?_)
    refine OW.rv (RV.assign rfl) rfl ?_
    refine OW.nil ?_
    (repeat (first | refine CW.seq ?_ | refine QW.then_n ?_ | refine CW.block ?_ | refine CW.ret ?_ | refine CW.skip ?_ | refine CW.exit ?_ | refine QW.then_x ?_ | refine QW.then_r ?_ | refine QW.block_n ?_ | refine QW.block_xe ?_ | refine QW.block_xn rfl ?_ | refine QW.block_r ?_))
    exact QW.ret1 rfl () trivial rfl (fun _ m => m.tail.tail.tail)
end Go.Fw.Try
