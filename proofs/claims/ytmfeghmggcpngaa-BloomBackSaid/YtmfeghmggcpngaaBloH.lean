/- Part of a proof over Ytmfeghmggcpngaa: rules and contracts that the law's text uses. No condition. -/
import Derived.Test.YtmfeghmggcpngaaBloG
namespace Go.Fw.Try
open Go Go.Proofs
set_option maxRecDepth 100000
set_option linter.unusedVariables false
def markB : List (BitVec 8) := zeroB.set 0 164#8
theorem flat_len {xss : List (List (BitVec 8))} (h : ∀ x ∈ xss, x.length = 256) : (xss.flatMap u8s).length = xss.length * 256 := by
  induction xss with
  | nil => rfl
  | cons x r ih =>
    rw [List.flatMap_cons, List.length_append, u8s_length, h x (List.mem_cons_self ..), ih (fun y hy => h y (List.mem_cons_of_mem _ hy)), List.length_cons, Nat.add_mul]; omega
theorem flat_one {xss : List (List (BitVec 8))} : ∀ v ∈ xss.flatMap u8s, v.oneCell' = true := fun v hv => by
  obtain ⟨x, _, h⟩ := List.mem_flatMap.1 hv
  exact u8s_one x v h

theorem bloomSets_does (w0 : World) (M : List Ent) (A : Option Addr) (ca : Nat) (xss : List (List (BitVec 8))) (a b : List (BitVec 8)) (hA : Mem.Says w0 M (fun w => Rd w A (xss.flatMap u8s))) {la : Nat} (hla : xss.length = la) (hx : la ≤ 549755813888) (h256 : ∀ x ∈ xss, x.length = 256) (ha : a.length = 256) (hb : b.length = 256) (hn : A = none → la = 0) :
    Does Try.prog 4 [.slice A la ca, .agg (u8s a).toArray, .agg (u8s b).toArray] w0 M (τ := Unit) (fun _ => True) (fun _ => .bool true) (fun q => M) := by
  have hfl := flat_len h256
  rw [hla] at hfl
  have hz : zeroB.length = 256 := zeroB_length
  have hmk : markB.length = 256 := by rw [markB, List.length_set]; exact hz
  refine Does.of_mem fun w1 m1 => ?_
  have sA : ∀ i, i < xss.length → A.isSome = true := fun i hi => (hA w1 m1).1 (flat_ne (by decide) h256 hi)
  refine Does.enter Try.func4 rfl Try.ntmps4 rfl ?_
  (repeat (first | refine CW.seq ?_ | refine QW.then_n ?_ | refine CW.block ?_ | refine CW.ret ?_ | refine CW.skip ?_ | refine CW.exit ?_ | refine QW.then_x ?_ | refine QW.then_r ?_ | refine QW.block_n ?_ | refine QW.block_xe ?_ | refine QW.block_xn rfl ?_ | refine QW.block_r ?_))
  refine CW.region ?_
  refine OW.boxA rfl rfl (fun b4 => ?_)
  refine OW.boxA rfl rfl (fun b5 => ?_)
  refine OW.rv (RV.assign rfl) rfl ?_
  refine OW.nil ?_
  (repeat (first | refine CW.seq ?_ | refine QW.then_n ?_ | refine CW.block ?_ | refine CW.ret ?_ | refine CW.skip ?_ | refine CW.exit ?_ | refine QW.then_x ?_ | refine QW.then_r ?_ | refine QW.block_n ?_ | refine QW.block_xe ?_ | refine QW.block_xn rfl ?_ | refine QW.block_r ?_))
  (repeat (first | refine CW.seq ?_ | refine QW.then_n ?_ | refine CW.block ?_ | refine CW.ret ?_ | refine CW.skip ?_ | refine CW.exit ?_ | refine QW.then_x ?_ | refine QW.then_r ?_ | refine QW.block_n ?_ | refine QW.block_xe ?_ | refine QW.block_xn rfl ?_ | refine QW.block_r ?_))
  refine CW.region ?_
  refine OW.rv (RV.move rfl) rfl ?_
  refine OW.rv (RV.len rfl rfl) rfl ?_
  refine OW.rv (RV.add rfl rfl (by omega)) rfl ?_
  refine OW.makeS (la + 1) (la + 1) rfl (by first | rfl | omega) rfl (by first | rfl | omega) rfl rfl rfl rfl rfl (by omega) (by simp only [i24]; omega) (by omega) rfl (fun b18 => ?_)
  refine OW.rv (RV.assign rfl) rfl ?_
  refine OW.nil ?_
  (repeat (first | refine CW.seq ?_ | refine QW.then_n ?_ | refine CW.block ?_ | refine CW.ret ?_ | refine CW.skip ?_ | refine CW.exit ?_ | refine QW.then_x ?_ | refine QW.then_r ?_ | refine QW.block_n ?_ | refine QW.block_xe ?_ | refine QW.block_xn rfl ?_ | refine QW.block_r ?_))
  (repeat (first | refine CW.seq ?_ | refine QW.then_n ?_ | refine CW.block ?_ | refine CW.ret ?_ | refine CW.skip ?_ | refine CW.exit ?_ | refine QW.then_x ?_ | refine QW.then_r ?_ | refine QW.block_n ?_ | refine QW.block_xe ?_ | refine QW.block_xn rfl ?_ | refine QW.block_r ?_))
  refine CW.region ?_
  refine OW.rv (RV.move rfl) rfl ?_
  refine OW.rv (RV.move rfl) rfl ?_
  refine OW.copyS rfl rfl rfl rfl (fun h => nomatch h) (by show 0 + (la + 1) * 256 ≤ _; simp) (Mem.Says.cons (Mem.Says.cons (Mem.Says.cons hA))) hfl flat_one hn rfl ?_
  refine OW.nil ?_
  (repeat (first | refine CW.seq ?_ | refine QW.then_n ?_ | refine CW.block ?_ | refine CW.ret ?_ | refine CW.skip ?_ | refine CW.exit ?_ | refine QW.then_x ?_ | refine QW.then_r ?_ | refine QW.block_n ?_ | refine QW.block_xe ?_ | refine QW.block_xn rfl ?_ | refine QW.block_r ?_))
  refine CW.mem (M' := (some b18, blk (xss.flatMap u8s ++ u8s zeroB) 24) :: (some b5, blk (u8s b) 24) :: (some b4, blk (u8s a) 24) :: M) (fun w m => by rw [← make_copyS (xss.flatMap u8s) (u8s zeroB) (n := la) (m := min la (la + 1)) (s := 256) ((u8s_length _).trans hz) hfl (by omega)]; exact m) ?_
  have hl0 : 0 + la * i24.sz + 256 ≤ (xss.flatMap u8s ++ u8s zeroB).length := by show 0 + la * 256 + 256 ≤ _; rw [List.length_append, hfl, u8s_length, hz]; omega
  have hbm : setL (u8s (List.replicate 256 0#8)) [(0, .int .u8 164)] = u8s markB := u8s_set' _ _ 164#8
  (repeat (first | refine CW.seq ?_ | refine QW.then_n ?_ | refine CW.block ?_ | refine CW.ret ?_ | refine CW.skip ?_ | refine CW.exit ?_ | refine QW.then_x ?_ | refine QW.then_r ?_ | refine QW.block_n ?_ | refine QW.block_xe ?_ | refine QW.block_xn rfl ?_ | refine QW.block_r ?_))
  refine CW.region ?_
  refine OW.rv (RV.move rfl) rfl ?_
  refine OW.rv (RV.move rfl) rfl ?_
  refine OW.rv (RV.len rfl rfl) rfl ?_
  refine OW.rv (RV.buildA (l := u8s (List.replicate 256 0#8)) (cs := u8s markB) rfl rfl rfl (by rw [← u8s_rep']; rfl) rfl rfl (by first | assumption | rfl)) rfl ?_
  (first | refine OW.rv (RV.idx_os _ rfl rfl rfl rfl rfl (by first | rfl | assumption) (by omega)) rfl ?_ | refine OW.rv (RV.idx_rs _ rfl rfl rfl rfl rfl (by first | rfl | assumption) (by omega)) rfl ?_)
  (first | (first | refine OW.sv (SV.storeW rfl (by first | rfl | assumption) rfl (by first | assumption | exact u8s_one _ | exact i64s_one _ | exact u64s_one _ | exact u32s_one _) rfl (by first | assumption | rfl | exact (u8s_length _).trans (by assumption) | exact (u64s_length _).trans (by assumption) | exact (u32s_length _).trans (by assumption) | (simp; done) | (simp [*]; done) | (simp [*]; rfl)) (by first | assumption | rfl | exact (u8s_length _).trans (by assumption) | exact (u64s_length _).trans (by assumption) | exact (u32s_length _).trans (by assumption) | (simp; done) | (simp [*]; done) | (simp [*]; rfl))) ?_ | refine OW.sv (SV.storeAs rfl (by first | rfl | assumption) rfl (by first | assumption | exact u8s_one _ | exact i64s_one _ | exact u64s_one _ | exact u32s_one _) rfl (by first | assumption | rfl | exact (u8s_length _).trans (by assumption) | exact (u64s_length _).trans (by assumption) | exact (u32s_length _).trans (by assumption) | (simp; done) | (simp [*]; done) | (simp [*]; rfl)) (by first | assumption | (simp; done) | (simp; omega) | omega)) ?_) | (refine OW.rot1 ?_; (first | refine OW.sv (SV.storeW rfl (by first | rfl | assumption) rfl (by first | assumption | exact u8s_one _ | exact i64s_one _ | exact u64s_one _ | exact u32s_one _) rfl (by first | assumption | rfl | exact (u8s_length _).trans (by assumption) | exact (u64s_length _).trans (by assumption) | exact (u32s_length _).trans (by assumption) | (simp; done) | (simp [*]; done) | (simp [*]; rfl)) (by first | assumption | rfl | exact (u8s_length _).trans (by assumption) | exact (u64s_length _).trans (by assumption) | exact (u32s_length _).trans (by assumption) | (simp; done) | (simp [*]; done) | (simp [*]; rfl))) ?_ | refine OW.sv (SV.storeAs rfl (by first | rfl | assumption) rfl (by first | assumption | exact u8s_one _ | exact i64s_one _ | exact u64s_one _ | exact u32s_one _) rfl (by first | assumption | rfl | exact (u8s_length _).trans (by assumption) | exact (u64s_length _).trans (by assumption) | exact (u32s_length _).trans (by assumption) | (simp; done) | (simp [*]; done) | (simp [*]; rfl)) (by first | assumption | (simp; done) | (simp; omega) | omega)) ?_)) | (refine OW.rot2 ?_; (first | refine OW.sv (SV.storeW rfl (by first | rfl | assumption) rfl (by first | assumption | exact u8s_one _ | exact i64s_one _ | exact u64s_one _ | exact u32s_one _) rfl (by first | assumption | rfl | exact (u8s_length _).trans (by assumption) | exact (u64s_length _).trans (by assumption) | exact (u32s_length _).trans (by assumption) | (simp; done) | (simp [*]; done) | (simp [*]; rfl)) (by first | assumption | rfl | exact (u8s_length _).trans (by assumption) | exact (u64s_length _).trans (by assumption) | exact (u32s_length _).trans (by assumption) | (simp; done) | (simp [*]; done) | (simp [*]; rfl))) ?_ | refine OW.sv (SV.storeAs rfl (by first | rfl | assumption) rfl (by first | assumption | exact u8s_one _ | exact i64s_one _ | exact u64s_one _ | exact u32s_one _) rfl (by first | assumption | rfl | exact (u8s_length _).trans (by assumption) | exact (u64s_length _).trans (by assumption) | exact (u32s_length _).trans (by assumption) | (simp; done) | (simp [*]; done) | (simp [*]; rfl)) (by first | assumption | (simp; done) | (simp; omega) | omega)) ?_)) | (refine OW.rot3 ?_; (first | refine OW.sv (SV.storeW rfl (by first | rfl | assumption) rfl (by first | assumption | exact u8s_one _ | exact i64s_one _ | exact u64s_one _ | exact u32s_one _) rfl (by first | assumption | rfl | exact (u8s_length _).trans (by assumption) | exact (u64s_length _).trans (by assumption) | exact (u32s_length _).trans (by assumption) | (simp; done) | (simp [*]; done) | (simp [*]; rfl)) (by first | assumption | rfl | exact (u8s_length _).trans (by assumption) | exact (u64s_length _).trans (by assumption) | exact (u32s_length _).trans (by assumption) | (simp; done) | (simp [*]; done) | (simp [*]; rfl))) ?_ | refine OW.sv (SV.storeAs rfl (by first | rfl | assumption) rfl (by first | assumption | exact u8s_one _ | exact i64s_one _ | exact u64s_one _ | exact u32s_one _) rfl (by first | assumption | rfl | exact (u8s_length _).trans (by assumption) | exact (u64s_length _).trans (by assumption) | exact (u32s_length _).trans (by assumption) | (simp; done) | (simp [*]; done) | (simp [*]; rfl)) (by first | assumption | (simp; done) | (simp; omega) | omega)) ?_)) | (refine OW.rot4 ?_; (first | refine OW.sv (SV.storeW rfl (by first | rfl | assumption) rfl (by first | assumption | exact u8s_one _ | exact i64s_one _ | exact u64s_one _ | exact u32s_one _) rfl (by first | assumption | rfl | exact (u8s_length _).trans (by assumption) | exact (u64s_length _).trans (by assumption) | exact (u32s_length _).trans (by assumption) | (simp; done) | (simp [*]; done) | (simp [*]; rfl)) (by first | assumption | rfl | exact (u8s_length _).trans (by assumption) | exact (u64s_length _).trans (by assumption) | exact (u32s_length _).trans (by assumption) | (simp; done) | (simp [*]; done) | (simp [*]; rfl))) ?_ | refine OW.sv (SV.storeAs rfl (by first | rfl | assumption) rfl (by first | assumption | exact u8s_one _ | exact i64s_one _ | exact u64s_one _ | exact u32s_one _) rfl (by first | assumption | rfl | exact (u8s_length _).trans (by assumption) | exact (u64s_length _).trans (by assumption) | exact (u32s_length _).trans (by assumption) | (simp; done) | (simp [*]; done) | (simp [*]; rfl)) (by first | assumption | (simp; done) | (simp; omega) | omega)) ?_)) | (refine OW.rot5 ?_; (first | refine OW.sv (SV.storeW rfl (by first | rfl | assumption) rfl (by first | assumption | exact u8s_one _ | exact i64s_one _ | exact u64s_one _ | exact u32s_one _) rfl (by first | assumption | rfl | exact (u8s_length _).trans (by assumption) | exact (u64s_length _).trans (by assumption) | exact (u32s_length _).trans (by assumption) | (simp; done) | (simp [*]; done) | (simp [*]; rfl)) (by first | assumption | rfl | exact (u8s_length _).trans (by assumption) | exact (u64s_length _).trans (by assumption) | exact (u32s_length _).trans (by assumption) | (simp; done) | (simp [*]; done) | (simp [*]; rfl))) ?_ | refine OW.sv (SV.storeAs rfl (by first | rfl | assumption) rfl (by first | assumption | exact u8s_one _ | exact i64s_one _ | exact u64s_one _ | exact u32s_one _) rfl (by first | assumption | rfl | exact (u8s_length _).trans (by assumption) | exact (u64s_length _).trans (by assumption) | exact (u32s_length _).trans (by assumption) | (simp; done) | (simp [*]; done) | (simp [*]; rfl)) (by first | assumption | (simp; done) | (simp; omega) | omega)) ?_)) | (refine OW.rot6 ?_; (first | refine OW.sv (SV.storeW rfl (by first | rfl | assumption) rfl (by first | assumption | exact u8s_one _ | exact i64s_one _ | exact u64s_one _ | exact u32s_one _) rfl (by first | assumption | rfl | exact (u8s_length _).trans (by assumption) | exact (u64s_length _).trans (by assumption) | exact (u32s_length _).trans (by assumption) | (simp; done) | (simp [*]; done) | (simp [*]; rfl)) (by first | assumption | rfl | exact (u8s_length _).trans (by assumption) | exact (u64s_length _).trans (by assumption) | exact (u32s_length _).trans (by assumption) | (simp; done) | (simp [*]; done) | (simp [*]; rfl))) ?_ | refine OW.sv (SV.storeAs rfl (by first | rfl | assumption) rfl (by first | assumption | exact u8s_one _ | exact i64s_one _ | exact u64s_one _ | exact u32s_one _) rfl (by first | assumption | rfl | exact (u8s_length _).trans (by assumption) | exact (u64s_length _).trans (by assumption) | exact (u32s_length _).trans (by assumption) | (simp; done) | (simp [*]; done) | (simp [*]; rfl)) (by first | assumption | (simp; done) | (simp; omega) | omega)) ?_)))
  refine OW.nil ?_
  (repeat (first | refine CW.seq ?_ | refine QW.then_n ?_ | refine CW.block ?_ | refine CW.ret ?_ | refine CW.skip ?_ | refine CW.exit ?_ | refine QW.then_x ?_ | refine QW.then_r ?_ | refine QW.block_n ?_ | refine QW.block_xe ?_ | refine QW.block_xn rfl ?_ | refine QW.block_r ?_))
  refine CW.mem (M' := (some b18, blk (xss.flatMap u8s ++ u8s markB) 24) :: (some b5, blk (u8s b) 24) :: (some b4, blk (u8s a) 24) :: M) (fun w m => by
    rw [← spl_end (xss.flatMap u8s) (u8s zeroB) (u8s markB) (p := 0 + la * 256) (by rw [hfl, Nat.zero_add]) (by rw [u8s_length, u8s_length, hz, hmk])]; exact m) ?_
  (repeat (first | refine CW.seq ?_ | refine QW.then_n ?_ | refine CW.block ?_ | refine CW.ret ?_ | refine CW.skip ?_ | refine CW.exit ?_ | refine QW.then_x ?_ | refine QW.then_r ?_ | refine QW.block_n ?_ | refine QW.block_xe ?_ | refine QW.block_xn rfl ?_ | refine QW.block_r ?_))
  refine CW.region ?_
  refine OW.rv (RV.move rfl) rfl ?_
  refine OW.rv (RV.move rfl) rfl ?_
  refine OW.rv (RV.len rfl rfl) rfl ?_
  (first | refine OW.rv (RV.cut_o _ rfl rfl rfl rfl rfl (by omega)) rfl ?_ | refine OW.rv (RV.cut_hi _ rfl rfl rfl rfl rfl (by omega)) rfl ?_)
  refine OW.rv (RV.assign rfl) rfl ?_
  refine OW.nil ?_
  (repeat (first | refine CW.seq ?_ | refine QW.then_n ?_ | refine CW.block ?_ | refine CW.ret ?_ | refine CW.skip ?_ | refine CW.exit ?_ | refine QW.then_x ?_ | refine QW.then_r ?_ | refine QW.block_n ?_ | refine QW.block_xe ?_ | refine QW.block_xn rfl ?_ | refine QW.block_r ?_))
  have hC : ∀ (M' : List Ent), (some b18, blk (xss.flatMap u8s ++ u8s markB) 24) ∈ M' → Mem.Says w0 M' (fun w => Rd w (some ⟨b18, 0, none⟩) (xss.flatMap u8s)) := fun M' he w m => m.rd0 he (fun h => nomatch h)
  have hin : (some b18, blk (xss.flatMap u8s ++ u8s markB) 24) ∈ ((some b18, blk (xss.flatMap u8s ++ u8s markB) 24) :: (some b5, blk (u8s b) 24) :: (some b4, blk (u8s a) 24) :: M) := List.Mem.head _
  have hu : (unionB xss).length = 256 := unionB_length h256
  (repeat (first | refine CW.seq ?_ | refine QW.then_n ?_ | refine CW.block ?_ | refine CW.ret ?_ | refine CW.skip ?_ | refine CW.exit ?_ | refine QW.then_x ?_ | refine QW.then_r ?_ | refine QW.block_n ?_ | refine QW.block_xe ?_ | refine QW.block_xn rfl ?_ | refine QW.block_r ?_))
  refine CW.draws mixed (by kernel_rfl) ?_
  refine DW.rv (RV.move rfl) rfl ?_
  refine DW.call _ Try.call10 rfl (union_does w0 _ _ _ xss (hC _ hin) hla (by omega) h256) (fun _ _ => rfl) (fun _ _ _ m => m) rfl ?_
  refine DW.rv (RV.move rfl) rfl ?_
  refine DW.call _ Try.call11 rfl (runion_does w0 _ _ _ xss (Mem.Says.cons (Mem.Says.cons (Mem.Says.cons hA))) hla (by omega) h256) (fun _ _ => rfl) (fun _ _ _ m => m) rfl ?_
  (first | refine DW.rv (RV.neA8_f rfl rfl rfl rfl rfl rfl (by first | assumption | rfl | exact (u8s_length _).trans (by assumption) | exact (u64s_length _).trans (by assumption) | exact (u32s_length _).trans (by assumption) | (simp; done) | (simp [*]; done) | (simp [*]; rfl)) (by first | rfl | assumption)) rfl ?_ | refine DW.rv (RV.neA8 rfl rfl rfl rfl rfl rfl (by first | assumption | rfl | exact (u8s_length _).trans (by assumption) | exact (u64s_length _).trans (by assumption) | exact (u32s_length _).trans (by assumption) | (simp; done) | (simp [*]; done) | (simp [*]; rfl)) (by first | assumption | rfl | exact (u8s_length _).trans (by assumption) | exact (u64s_length _).trans (by assumption) | exact (u32s_length _).trans (by assumption) | (simp; done) | (simp [*]; done) | (simp [*]; rfl))) rfl ?_)
  refine DW.rv (RV.move rfl) rfl ?_
  (first | (refine DW.want rfl ?_; (first | refine DW.rv (RV.loadW rfl (by (repeat (first | exact List.Mem.head _ | refine List.Mem.tail _ ?_)); done) (by first | rfl | assumption) rfl rfl rfl (by first | assumption | rfl | exact (u8s_length _).trans (by assumption) | exact (u64s_length _).trans (by assumption) | exact (u32s_length _).trans (by assumption) | (simp; done) | (simp [*]; done) | (simp [*]; rfl))) rfl ?_ | refine DW.rv (RV.loadAo rfl (by (repeat (first | exact List.Mem.head _ | refine List.Mem.tail _ ?_)); done) (by first | rfl | assumption) rfl rfl rfl (by assumption) (by first | assumption | rfl | exact (u8s_length _).trans (by assumption) | exact (u64s_length _).trans (by assumption) | exact (u32s_length _).trans (by assumption) | (simp; done) | (simp [*]; done) | (simp [*]; rfl))) rfl ?_ | refine DW.rv (RV.loadAs rfl rfl rfl rfl (by (repeat (first | assumption | refine Mem.Says.cons ?_)); done) (by first | assumption | rfl | exact (u8s_length _).trans (by assumption) | exact (u64s_length _).trans (by assumption) | exact (u32s_length _).trans (by assumption) | (simp; done) | (simp [*]; done) | (simp [*]; rfl))) rfl ?_)) | refine DW.skip rfl rfl rfl ?_)
  (first | (refine DW.want rfl ?_; (first | refine DW.rv (RV.loadW rfl (by (repeat (first | exact List.Mem.head _ | refine List.Mem.tail _ ?_)); done) (by first | rfl | assumption) rfl rfl rfl (by first | assumption | rfl | exact (u8s_length _).trans (by assumption) | exact (u64s_length _).trans (by assumption) | exact (u32s_length _).trans (by assumption) | (simp; done) | (simp [*]; done) | (simp [*]; rfl))) rfl ?_ | refine DW.rv (RV.loadAo rfl (by (repeat (first | exact List.Mem.head _ | refine List.Mem.tail _ ?_)); done) (by first | rfl | assumption) rfl rfl rfl (by assumption) (by first | assumption | rfl | exact (u8s_length _).trans (by assumption) | exact (u64s_length _).trans (by assumption) | exact (u32s_length _).trans (by assumption) | (simp; done) | (simp [*]; done) | (simp [*]; rfl))) rfl ?_ | refine DW.rv (RV.loadAs rfl rfl rfl rfl (by (repeat (first | assumption | refine Mem.Says.cons ?_)); done) (by first | assumption | rfl | exact (u8s_length _).trans (by assumption) | exact (u64s_length _).trans (by assumption) | exact (u32s_length _).trans (by assumption) | (simp; done) | (simp [*]; done) | (simp [*]; rfl))) rfl ?_)) | refine DW.skip rfl rfl rfl ?_)
  (first | (refine DW.want rfl ?_; refine DW.call _ Try.call12 rfl (within_does w0 _ a b ha hb rfl) (fun _ _ => rfl) (fun _ _ _ m => m) rfl ?_) | refine DW.skip rfl rfl rfl ?_)
  (first | (refine DW.want rfl ?_; (first | refine DW.rv (RV.loadW rfl (by (repeat (first | exact List.Mem.head _ | refine List.Mem.tail _ ?_)); done) (by first | rfl | assumption) rfl rfl rfl (by first | assumption | rfl | exact (u8s_length _).trans (by assumption) | exact (u64s_length _).trans (by assumption) | exact (u32s_length _).trans (by assumption) | (simp; done) | (simp [*]; done) | (simp [*]; rfl))) rfl ?_ | refine DW.rv (RV.loadAo rfl (by (repeat (first | exact List.Mem.head _ | refine List.Mem.tail _ ?_)); done) (by first | rfl | assumption) rfl rfl rfl (by assumption) (by first | assumption | rfl | exact (u8s_length _).trans (by assumption) | exact (u64s_length _).trans (by assumption) | exact (u32s_length _).trans (by assumption) | (simp; done) | (simp [*]; done) | (simp [*]; rfl))) rfl ?_ | refine DW.rv (RV.loadAs rfl rfl rfl rfl (by (repeat (first | assumption | refine Mem.Says.cons ?_)); done) (by first | assumption | rfl | exact (u8s_length _).trans (by assumption) | exact (u64s_length _).trans (by assumption) | exact (u32s_length _).trans (by assumption) | (simp; done) | (simp [*]; done) | (simp [*]; rfl))) rfl ?_)) | refine DW.skip rfl rfl rfl ?_)
  (first | (refine DW.want rfl ?_; (first | refine DW.rv (RV.loadW rfl (by (repeat (first | exact List.Mem.head _ | refine List.Mem.tail _ ?_)); done) (by first | rfl | assumption) rfl rfl rfl (by first | assumption | rfl | exact (u8s_length _).trans (by assumption) | exact (u64s_length _).trans (by assumption) | exact (u32s_length _).trans (by assumption) | (simp; done) | (simp [*]; done) | (simp [*]; rfl))) rfl ?_ | refine DW.rv (RV.loadAo rfl (by (repeat (first | exact List.Mem.head _ | refine List.Mem.tail _ ?_)); done) (by first | rfl | assumption) rfl rfl rfl (by assumption) (by first | assumption | rfl | exact (u8s_length _).trans (by assumption) | exact (u64s_length _).trans (by assumption) | exact (u32s_length _).trans (by assumption) | (simp; done) | (simp [*]; done) | (simp [*]; rfl))) rfl ?_ | refine DW.rv (RV.loadAs rfl rfl rfl rfl (by (repeat (first | assumption | refine Mem.Says.cons ?_)); done) (by first | assumption | rfl | exact (u8s_length _).trans (by assumption) | exact (u64s_length _).trans (by assumption) | exact (u32s_length _).trans (by assumption) | (simp; done) | (simp [*]; done) | (simp [*]; rfl))) rfl ?_)) | refine DW.skip rfl rfl rfl ?_)
  (first | (refine DW.want rfl ?_; refine DW.call _ Try.call13 rfl (rwithin_does w0 _ a b ha hb rfl) (fun _ _ => rfl) (fun _ _ _ m => m) rfl ?_) | refine DW.skip rfl rfl rfl ?_)
  (first | (refine DW.want rfl ?_; (first | refine DW.rv (RV.neqB_f rfl rfl rfl (by first | rfl | assumption)) rfl ?_ | refine DW.rv (RV.neqB rfl rfl rfl) rfl ?_)) | refine DW.skip rfl rfl rfl ?_)
  (first | refine DW.rv (RV.pick_t rfl rfl rfl) rfl ?_ | refine DW.rv (RV.pick_f rfl rfl rfl) rfl ?_ | refine DW.rv (RV.pick rfl rfl rfl) rfl ?_)
  refine DW.rv (RV.move rfl) rfl ?_
  (first | (refine DW.want rfl ?_; (first | refine DW.rv (RV.loadW rfl (by (repeat (first | exact List.Mem.head _ | refine List.Mem.tail _ ?_)); done) (by first | rfl | assumption) rfl rfl rfl (by first | assumption | rfl | exact (u8s_length _).trans (by assumption) | exact (u64s_length _).trans (by assumption) | exact (u32s_length _).trans (by assumption) | (simp; done) | (simp [*]; done) | (simp [*]; rfl))) rfl ?_ | refine DW.rv (RV.loadAo rfl (by (repeat (first | exact List.Mem.head _ | refine List.Mem.tail _ ?_)); done) (by first | rfl | assumption) rfl rfl rfl (by assumption) (by first | assumption | rfl | exact (u8s_length _).trans (by assumption) | exact (u64s_length _).trans (by assumption) | exact (u32s_length _).trans (by assumption) | (simp; done) | (simp [*]; done) | (simp [*]; rfl))) rfl ?_ | refine DW.rv (RV.loadAs rfl rfl rfl rfl (by (repeat (first | assumption | refine Mem.Says.cons ?_)); done) (by first | assumption | rfl | exact (u8s_length _).trans (by assumption) | exact (u64s_length _).trans (by assumption) | exact (u32s_length _).trans (by assumption) | (simp; done) | (simp [*]; done) | (simp [*]; rfl))) rfl ?_)) | refine DW.skip rfl rfl rfl ?_)
  (first | (refine DW.want rfl ?_; refine DW.call _ Try.call14 rfl (count_does w0 _ a ha) (fun _ _ => rfl) (fun _ _ _ m => m) rfl ?_) | refine DW.skip rfl rfl rfl ?_)
  (first | (refine DW.want rfl ?_; (first | refine DW.rv (RV.loadW rfl (by (repeat (first | exact List.Mem.head _ | refine List.Mem.tail _ ?_)); done) (by first | rfl | assumption) rfl rfl rfl (by first | assumption | rfl | exact (u8s_length _).trans (by assumption) | exact (u64s_length _).trans (by assumption) | exact (u32s_length _).trans (by assumption) | (simp; done) | (simp [*]; done) | (simp [*]; rfl))) rfl ?_ | refine DW.rv (RV.loadAo rfl (by (repeat (first | exact List.Mem.head _ | refine List.Mem.tail _ ?_)); done) (by first | rfl | assumption) rfl rfl rfl (by assumption) (by first | assumption | rfl | exact (u8s_length _).trans (by assumption) | exact (u64s_length _).trans (by assumption) | exact (u32s_length _).trans (by assumption) | (simp; done) | (simp [*]; done) | (simp [*]; rfl))) rfl ?_ | refine DW.rv (RV.loadAs rfl rfl rfl rfl (by (repeat (first | assumption | refine Mem.Says.cons ?_)); done) (by first | assumption | rfl | exact (u8s_length _).trans (by assumption) | exact (u64s_length _).trans (by assumption) | exact (u32s_length _).trans (by assumption) | (simp; done) | (simp [*]; done) | (simp [*]; rfl))) rfl ?_)) | refine DW.skip rfl rfl rfl ?_)
  (first | (refine DW.want rfl ?_; refine DW.call _ Try.call15 rfl (rcount_does w0 _ a ha) (fun _ _ => rfl) (fun _ _ _ m => m) rfl ?_) | refine DW.skip rfl rfl rfl ?_)
  (first | (refine DW.want rfl ?_; (first | refine DW.rv (RV.neq_t rfl rfl (by omega)) rfl ?_ | refine DW.rv (RV.neq_f rfl rfl (by omega)) rfl ?_ | refine DW.rv (RV.neq rfl rfl) rfl ?_)) | refine DW.skip rfl rfl rfl ?_)
  (first | refine DW.rv (RV.pick_t rfl rfl rfl) rfl ?_ | refine DW.rv (RV.pick_f rfl rfl rfl) rfl ?_ | refine DW.rv (RV.pick rfl rfl rfl) rfl ?_)
  refine DW.nil ?_
  (repeat (first | refine CW.seq ?_ | refine QW.then_n ?_ | refine CW.block ?_ | refine CW.ret ?_ | refine CW.skip ?_ | refine CW.exit ?_ | refine QW.then_x ?_ | refine QW.then_r ?_ | refine QW.block_n ?_ | refine QW.block_xe ?_ | refine QW.block_xn rfl ?_ | refine QW.block_r ?_))
  (first | refine CW.cond_t rfl ?_ | refine CW.cond_f rfl ?_ | refine CW.cond_p rfl (fun hq => ?_) (fun hq => ?_) | refine CW.cond_np rfl (fun hq => ?_) (fun hq => ?_) | refine CW.cond rfl (fun hq => ?_) (fun hq => ?_))
  (repeat (first | refine CW.seq ?_ | refine QW.then_n ?_ | refine CW.block ?_ | refine CW.ret ?_ | refine CW.skip ?_ | refine CW.exit ?_ | refine QW.then_x ?_ | refine QW.then_r ?_ | refine QW.block_n ?_ | refine QW.block_xe ?_ | refine QW.block_xn rfl ?_ | refine QW.block_r ?_))
  refine CW.region ?_
  refine OW.rv (RV.assign rfl) rfl ?_
  refine OW.nil ?_
  (repeat (first | refine CW.seq ?_ | refine QW.then_n ?_ | refine CW.block ?_ | refine CW.ret ?_ | refine CW.skip ?_ | refine CW.exit ?_ | refine QW.then_x ?_ | refine QW.then_r ?_ | refine QW.block_n ?_ | refine QW.block_xe ?_ | refine QW.block_xn rfl ?_ | refine QW.block_r ?_))
  refine CW.loop (σ := Nat) (fun i => i ≤ la) (fun i => [(0, .slice A la ca), (4, ptr (some b4) 0), (5, ptr (some b5) 0), (7, sl (some b18) 0 (la + 1) (la + 1)), (8, sl (some b18) 0 la (la + 1)), (9, .int .i64 (i : Int))])
    (fun i => (some b18, blk (xss.flatMap u8s ++ u8s markB) 24) :: (some b5, blk (u8s b) 24) :: (some b4, blk (u8s a) 24) :: M) (fun i => la - i) 0 (by omega) ⟨rfl, rfl, rfl, rfl, rfl, rfl, trivial⟩ (fun _ m => m) ?_
  intro i hi
  (repeat (first | refine CW.seq ?_ | refine QW.then_n ?_ | refine CW.block ?_ | refine CW.ret ?_ | refine CW.skip ?_ | refine CW.exit ?_ | refine QW.then_x ?_ | refine QW.then_r ?_ | refine QW.block_n ?_ | refine QW.block_xe ?_ | refine QW.block_xn rfl ?_ | refine QW.block_r ?_))
  refine CW.region ?_
  refine OW.rv (RV.move rfl) rfl ?_
  refine OW.rv (RV.move rfl) rfl ?_
  refine OW.rv (RV.len rfl rfl) rfl ?_
  refine OW.rv (RV.lss rfl rfl) rfl ?_
  refine OW.nil ?_
  (repeat (first | refine CW.seq ?_ | refine QW.then_n ?_ | refine CW.block ?_ | refine CW.ret ?_ | refine CW.skip ?_ | refine CW.exit ?_ | refine QW.then_x ?_ | refine QW.then_r ?_ | refine QW.block_n ?_ | refine QW.block_xe ?_ | refine QW.block_xn rfl ?_ | refine QW.block_r ?_))
  (first | refine CW.cond_t rfl ?_ | refine CW.cond_f rfl ?_ | refine CW.cond_p rfl (fun hlt => ?_) (fun hlt => ?_) | refine CW.cond_np rfl (fun hlt => ?_) (fun hlt => ?_) | refine CW.cond rfl (fun hlt => ?_) (fun hlt => ?_))
  · have hiA : i < xss.length := by omega
    have s1 := sA i hiA
    have hc : (xss.getD i []).length = 256 := h256 _ (by simp [List.getD, List.getElem?_eq_getElem hiA])
    have l1 : Mem.Says w0 M (fun w => ∀ k u, (u8s (xss.getD i []))[k]? = some u → w.cell? (((A.getD default).add (i * 256)).add k) = some u) := fun w m k u hk => by
      rw [Addr.add_add]; exact (hA w m).cell (flat_get h256 hiA hk)
    have l2 : ∀ (k : Nat) (u : Value), (u8s (xss.getD i []))[k]? = some u → (xss.flatMap u8s ++ u8s markB)[0 + i * i24.sz + k]? = some u := fun k u hk => by
      have h := flat_get h256 hiA hk
      have hl := (List.getElem?_eq_some_iff.1 h).1
      rw [Nat.zero_add]
      show (xss.flatMap u8s ++ u8s markB)[i * 256 + k]? = some u
      rw [List.getElem?_append_left hl]; exact h
    (repeat (first | refine CW.seq ?_ | refine QW.then_n ?_ | refine CW.block ?_ | refine CW.ret ?_ | refine CW.skip ?_ | refine CW.exit ?_ | refine QW.then_x ?_ | refine QW.then_r ?_ | refine QW.block_n ?_ | refine QW.block_xe ?_ | refine QW.block_xn rfl ?_ | refine QW.block_r ?_))
    refine CW.draws mixed (by kernel_rfl) ?_
    refine DW.rv (RV.move rfl) rfl ?_
    refine DW.rv (RV.move rfl) rfl ?_
    (first | refine DW.rv (RV.idx_os _ rfl rfl rfl rfl rfl (by first | rfl | assumption) (by omega)) rfl ?_ | refine DW.rv (RV.idx_rs _ rfl rfl rfl rfl rfl (by first | rfl | assumption) (by omega)) rfl ?_)
    (first | refine DW.rv (RV.loadW rfl (by (repeat (first | exact List.Mem.head _ | refine List.Mem.tail _ ?_)); done) (by first | rfl | assumption) rfl rfl rfl (by first | assumption | rfl | exact (u8s_length _).trans (by assumption) | exact (u64s_length _).trans (by assumption) | exact (u32s_length _).trans (by assumption) | (simp; done) | (simp [*]; done) | (simp [*]; rfl))) rfl ?_ | refine DW.rv (RV.loadAo rfl (by (repeat (first | exact List.Mem.head _ | refine List.Mem.tail _ ?_)); done) (by first | rfl | assumption) rfl rfl rfl (by assumption) (by first | assumption | rfl | exact (u8s_length _).trans (by assumption) | exact (u64s_length _).trans (by assumption) | exact (u32s_length _).trans (by assumption) | (simp; done) | (simp [*]; done) | (simp [*]; rfl))) rfl ?_ | refine DW.rv (RV.loadAs rfl rfl rfl rfl (by (repeat (first | assumption | refine Mem.Says.cons ?_)); done) (by first | assumption | rfl | exact (u8s_length _).trans (by assumption) | exact (u64s_length _).trans (by assumption) | exact (u32s_length _).trans (by assumption) | (simp; done) | (simp [*]; done) | (simp [*]; rfl))) rfl ?_)
    refine DW.rv (RV.move rfl) rfl ?_
    refine DW.rv (RV.move rfl) rfl ?_
    (first | refine DW.rv (RV.idx_os _ rfl rfl rfl rfl rfl (by first | rfl | assumption) (by omega)) rfl ?_ | refine DW.rv (RV.idx_rs _ rfl rfl rfl rfl rfl (by first | rfl | assumption) (by omega)) rfl ?_)
    (first | refine DW.rv (RV.loadW rfl (by (repeat (first | exact List.Mem.head _ | refine List.Mem.tail _ ?_)); done) (by first | rfl | assumption) rfl rfl rfl (by first | assumption | rfl | exact (u8s_length _).trans (by assumption) | exact (u64s_length _).trans (by assumption) | exact (u32s_length _).trans (by assumption) | (simp; done) | (simp [*]; done) | (simp [*]; rfl))) rfl ?_ | refine DW.rv (RV.loadAo rfl (by (repeat (first | exact List.Mem.head _ | refine List.Mem.tail _ ?_)); done) (by first | rfl | assumption) rfl rfl rfl (by assumption) (by first | assumption | rfl | exact (u8s_length _).trans (by assumption) | exact (u64s_length _).trans (by assumption) | exact (u32s_length _).trans (by assumption) | (simp; done) | (simp [*]; done) | (simp [*]; rfl))) rfl ?_ | refine DW.rv (RV.loadAs rfl rfl rfl rfl (by (repeat (first | assumption | refine Mem.Says.cons ?_)); done) (by first | assumption | rfl | exact (u8s_length _).trans (by assumption) | exact (u64s_length _).trans (by assumption) | exact (u32s_length _).trans (by assumption) | (simp; done) | (simp [*]; done) | (simp [*]; rfl))) rfl ?_)
    (first | refine DW.rv (RV.neA8_f rfl rfl rfl rfl rfl rfl (by first | assumption | rfl | exact (u8s_length _).trans (by assumption) | exact (u64s_length _).trans (by assumption) | exact (u32s_length _).trans (by assumption) | (simp; done) | (simp [*]; done) | (simp [*]; rfl)) (by first | rfl | assumption)) rfl ?_ | refine DW.rv (RV.neA8 rfl rfl rfl rfl rfl rfl (by first | assumption | rfl | exact (u8s_length _).trans (by assumption) | exact (u64s_length _).trans (by assumption) | exact (u32s_length _).trans (by assumption) | (simp; done) | (simp [*]; done) | (simp [*]; rfl)) (by first | assumption | rfl | exact (u8s_length _).trans (by assumption) | exact (u64s_length _).trans (by assumption) | exact (u32s_length _).trans (by assumption) | (simp; done) | (simp [*]; done) | (simp [*]; rfl))) rfl ?_)
    refine DW.nil ?_
    (repeat (first | refine CW.seq ?_ | refine QW.then_n ?_ | refine CW.block ?_ | refine CW.ret ?_ | refine CW.skip ?_ | refine CW.exit ?_ | refine QW.then_x ?_ | refine QW.then_r ?_ | refine QW.block_n ?_ | refine QW.block_xe ?_ | refine QW.block_xn rfl ?_ | refine QW.block_r ?_))
    (first | refine CW.cond_t rfl ?_ | refine CW.cond_f rfl ?_ | refine CW.cond_p rfl (fun hq => ?_) (fun hq => ?_) | refine CW.cond_np rfl (fun hq => ?_) (fun hq => ?_) | refine CW.cond rfl (fun hq => ?_) (fun hq => ?_))
    (repeat (first | refine CW.seq ?_ | refine QW.then_n ?_ | refine CW.block ?_ | refine CW.ret ?_ | refine CW.skip ?_ | refine CW.exit ?_ | refine QW.then_x ?_ | refine QW.then_r ?_ | refine QW.block_n ?_ | refine QW.block_xe ?_ | refine QW.block_xn rfl ?_ | refine QW.block_r ?_))
    refine CW.region ?_
    refine OW.rv (RV.move rfl) rfl ?_
    refine OW.rv (RV.add rfl rfl (by omega)) rfl ?_
    refine OW.rv (RV.assign rfl) rfl ?_
    refine OW.nil ?_
    (repeat (first | refine CW.seq ?_ | refine QW.then_n ?_ | refine CW.block ?_ | refine CW.ret ?_ | refine CW.skip ?_ | refine CW.exit ?_ | refine QW.then_x ?_ | refine QW.then_r ?_ | refine QW.block_n ?_ | refine QW.block_xe ?_ | refine QW.block_xn rfl ?_ | refine QW.block_r ?_))
    exact QW.again (i + 1) (by omega) (by omega) ⟨rfl, rfl, rfl, rfl, rfl, rfl, trivial⟩ (fun _ m => m)
  have hie : la = i := by omega
  subst hie
  (repeat (first | refine CW.seq ?_ | refine QW.then_n ?_ | refine CW.block ?_ | refine CW.ret ?_ | refine CW.skip ?_ | refine CW.exit ?_ | refine QW.then_x ?_ | refine QW.then_r ?_ | refine QW.block_n ?_ | refine QW.block_xe ?_ | refine QW.block_xn rfl ?_ | refine QW.block_r ?_))
  refine CW.region ?_
  (first | refine OW.rv (RV.loadW rfl (by (repeat (first | exact List.Mem.head _ | refine List.Mem.tail _ ?_)); done) (by first | rfl | assumption) rfl rfl rfl (by first | assumption | rfl | exact (u8s_length _).trans (by assumption) | exact (u64s_length _).trans (by assumption) | exact (u32s_length _).trans (by assumption) | (simp; done) | (simp [*]; done) | (simp [*]; rfl))) rfl ?_ | refine OW.rv (RV.loadAo rfl (by (repeat (first | exact List.Mem.head _ | refine List.Mem.tail _ ?_)); done) (by first | rfl | assumption) rfl rfl rfl (by assumption) (by first | assumption | rfl | exact (u8s_length _).trans (by assumption) | exact (u64s_length _).trans (by assumption) | exact (u32s_length _).trans (by assumption) | (simp; done) | (simp [*]; done) | (simp [*]; rfl))) rfl ?_ | refine OW.rv (RV.loadAs rfl rfl rfl rfl (by (repeat (first | assumption | refine Mem.Says.cons ?_)); done) (by first | assumption | rfl | exact (u8s_length _).trans (by assumption) | exact (u64s_length _).trans (by assumption) | exact (u32s_length _).trans (by assumption) | (simp; done) | (simp [*]; done) | (simp [*]; rfl))) rfl ?_)
  refine OW.call Try.call16 rfl (bits_does w0 _ _ ha) rfl (fun o1 hq1 => ?_)
  refine OW.rv (RV.assign rfl) rfl ?_
  refine OW.nil ?_
  (repeat (first | refine CW.seq ?_ | refine QW.then_n ?_ | refine CW.block ?_ | refine CW.ret ?_ | refine CW.skip ?_ | refine CW.exit ?_ | refine QW.then_x ?_ | refine QW.then_r ?_ | refine QW.block_n ?_ | refine QW.block_xe ?_ | refine QW.block_xn rfl ?_ | refine QW.block_r ?_))
  (repeat (first | refine CW.seq ?_ | refine QW.then_n ?_ | refine CW.block ?_ | refine CW.ret ?_ | refine CW.skip ?_ | refine CW.exit ?_ | refine QW.then_x ?_ | refine QW.then_r ?_ | refine QW.block_n ?_ | refine QW.block_xe ?_ | refine QW.block_xn rfl ?_ | refine QW.block_r ?_))
  refine CW.region ?_
  (first | refine OW.rv (RV.loadW rfl (by (repeat (first | exact List.Mem.head _ | refine List.Mem.tail _ ?_)); done) (by first | rfl | assumption) rfl rfl rfl (by first | assumption | rfl | exact (u8s_length _).trans (by assumption) | exact (u64s_length _).trans (by assumption) | exact (u32s_length _).trans (by assumption) | (simp; done) | (simp [*]; done) | (simp [*]; rfl))) rfl ?_ | refine OW.rv (RV.loadAo rfl (by (repeat (first | exact List.Mem.head _ | refine List.Mem.tail _ ?_)); done) (by first | rfl | assumption) rfl rfl rfl (by assumption) (by first | assumption | rfl | exact (u8s_length _).trans (by assumption) | exact (u64s_length _).trans (by assumption) | exact (u32s_length _).trans (by assumption) | (simp; done) | (simp [*]; done) | (simp [*]; rfl))) rfl ?_ | refine OW.rv (RV.loadAs rfl rfl rfl rfl (by (repeat (first | assumption | refine Mem.Says.cons ?_)); done) (by first | assumption | rfl | exact (u8s_length _).trans (by assumption) | exact (u64s_length _).trans (by assumption) | exact (u32s_length _).trans (by assumption) | (simp; done) | (simp [*]; done) | (simp [*]; rfl))) rfl ?_)
  refine OW.call Try.call16 rfl (bits_does w0 _ _ hb) rfl (fun o2 hq2 => ?_)
  refine OW.nil ?_
  (repeat (first | refine CW.seq ?_ | refine QW.then_n ?_ | refine CW.block ?_ | refine CW.ret ?_ | refine CW.skip ?_ | refine CW.exit ?_ | refine QW.then_x ?_ | refine QW.then_r ?_ | refine QW.block_n ?_ | refine QW.block_xe ?_ | refine QW.block_xn rfl ?_ | refine QW.block_r ?_))
  (repeat (first | refine CW.seq ?_ | refine QW.then_n ?_ | refine CW.block ?_ | refine CW.ret ?_ | refine CW.skip ?_ | refine CW.exit ?_ | refine QW.then_x ?_ | refine QW.then_r ?_ | refine QW.block_n ?_ | refine QW.block_xe ?_ | refine QW.block_xn rfl ?_ | refine QW.block_r ?_))
  refine CW.region ?_
  (first | refine OW.rv (RV.loadW rfl (by (repeat (first | exact List.Mem.head _ | refine List.Mem.tail _ ?_)); done) (by first | rfl | assumption) rfl rfl rfl (by first | assumption | rfl | exact (u8s_length _).trans (by assumption) | exact (u64s_length _).trans (by assumption) | exact (u32s_length _).trans (by assumption) | (simp; done) | (simp [*]; done) | (simp [*]; rfl))) rfl ?_ | refine OW.rv (RV.loadAo rfl (by (repeat (first | exact List.Mem.head _ | refine List.Mem.tail _ ?_)); done) (by first | rfl | assumption) rfl rfl rfl (by assumption) (by first | assumption | rfl | exact (u8s_length _).trans (by assumption) | exact (u64s_length _).trans (by assumption) | exact (u32s_length _).trans (by assumption) | (simp; done) | (simp [*]; done) | (simp [*]; rfl))) rfl ?_ | refine OW.rv (RV.loadAs rfl rfl rfl rfl (by (repeat (first | assumption | refine Mem.Says.cons ?_)); done) (by first | assumption | rfl | exact (u8s_length _).trans (by assumption) | exact (u64s_length _).trans (by assumption) | exact (u32s_length _).trans (by assumption) | (simp; done) | (simp [*]; done) | (simp [*]; rfl))) rfl ?_)
  refine OW.call Try.call16 rfl (bits_does w0 _ _ ha) rfl (fun o3 hq3 => ?_)
  refine OW.rv (RV.assign rfl) rfl ?_
  refine OW.nil ?_
  (repeat (first | refine CW.seq ?_ | refine QW.then_n ?_ | refine CW.block ?_ | refine CW.ret ?_ | refine CW.skip ?_ | refine CW.exit ?_ | refine QW.then_x ?_ | refine QW.then_r ?_ | refine QW.block_n ?_ | refine QW.block_xe ?_ | refine QW.block_xn rfl ?_ | refine QW.block_r ?_))
  (repeat (first | refine CW.seq ?_ | refine QW.then_n ?_ | refine CW.block ?_ | refine CW.ret ?_ | refine CW.skip ?_ | refine CW.exit ?_ | refine QW.then_x ?_ | refine QW.then_r ?_ | refine QW.block_n ?_ | refine QW.block_xe ?_ | refine QW.block_xn rfl ?_ | refine QW.block_r ?_))
  refine CW.region ?_
  (first | refine OW.rv (RV.loadW rfl (by (repeat (first | exact List.Mem.head _ | refine List.Mem.tail _ ?_)); done) (by first | rfl | assumption) rfl rfl rfl (by first | assumption | rfl | exact (u8s_length _).trans (by assumption) | exact (u64s_length _).trans (by assumption) | exact (u32s_length _).trans (by assumption) | (simp; done) | (simp [*]; done) | (simp [*]; rfl))) rfl ?_ | refine OW.rv (RV.loadAo rfl (by (repeat (first | exact List.Mem.head _ | refine List.Mem.tail _ ?_)); done) (by first | rfl | assumption) rfl rfl rfl (by assumption) (by first | assumption | rfl | exact (u8s_length _).trans (by assumption) | exact (u64s_length _).trans (by assumption) | exact (u32s_length _).trans (by assumption) | (simp; done) | (simp [*]; done) | (simp [*]; rfl))) rfl ?_ | refine OW.rv (RV.loadAs rfl rfl rfl rfl (by (repeat (first | assumption | refine Mem.Says.cons ?_)); done) (by first | assumption | rfl | exact (u8s_length _).trans (by assumption) | exact (u64s_length _).trans (by assumption) | exact (u32s_length _).trans (by assumption) | (simp; done) | (simp [*]; done) | (simp [*]; rfl))) rfl ?_)
  refine OW.call Try.call17 rfl (rbits_does w0 _ _ ha) rfl (fun o4 hq4 => ?_)
  refine OW.rv (RV.assign rfl) rfl ?_
  refine OW.nil ?_
  (repeat (first | refine CW.seq ?_ | refine QW.then_n ?_ | refine CW.block ?_ | refine CW.ret ?_ | refine CW.skip ?_ | refine CW.exit ?_ | refine QW.then_x ?_ | refine QW.then_r ?_ | refine QW.block_n ?_ | refine QW.block_xe ?_ | refine QW.block_xn rfl ?_ | refine QW.block_r ?_))
  have hn1 := intsB_length a 2048
  have hi1 : (i64s (intsB a 2048)).length = (intsB a 2048).length := List.length_map ..
  have hemp : ∀ (q : Option Nat × List Value × Nat), (i64s (intsB a 2048) ++ q.2.1).length = q.2.2 → (q.1 = none → q.2.2 = 0) → q.1 = none → i64s (intsB a 2048) = [] := fun q h1 h2 h3 => by
    have := h2 h3
    rw [List.length_append] at h1
    exact List.length_eq_zero_iff.1 (by omega)
  have hO : ∀ (q : Option Nat × List Value × Nat) (M' : List Ent), (i64s (intsB a 2048) ++ q.2.1).length = q.2.2 → (q.1 = none → q.2.2 = 0) → (q.1, blk (i64s (intsB a 2048) ++ q.2.1) 3) ∈ M' → Mem.Says w0 M' (fun w => Rd w (q.1.map fun k => ⟨k, 0, none⟩) (i64s (intsB a 2048))) := fun q M' h1 h2 he w m => m.rd0 he (hemp q h1 h2)
  have l3 : ∀ (k : Nat) (u : Value), (u8s markB)[k]? = some u → (xss.flatMap u8s ++ u8s markB)[0 + la * i24.sz + k]? = some u := fun k u hk => by
    show (xss.flatMap u8s ++ u8s markB)[0 + la * 256 + k]? = some u
    rw [List.getElem?_append_right (by omega), hfl, show 0 + la * 256 + k - la * 256 = k by omega]; exact hk
  (repeat (first | refine CW.seq ?_ | refine QW.then_n ?_ | refine CW.block ?_ | refine CW.ret ?_ | refine CW.skip ?_ | refine CW.exit ?_ | refine QW.then_x ?_ | refine QW.then_r ?_ | refine QW.block_n ?_ | refine QW.block_xe ?_ | refine QW.block_xn rfl ?_ | refine QW.block_r ?_))
  refine CW.region ?_
  refine OW.rv (RV.move rfl) rfl ?_
  refine OW.rv (RV.move rfl) rfl ?_
  refine OW.call Try.call9 rfl (equal_true w0 _ _ _ _ _ _ (hO o1 _ hq1.1 hq1.2 (by simp)) (hO o4 _ hq4.1 hq4.2 (by simp)) rfl rfl (by omega)) rfl (fun u hu => ?_)
  refine OW.rv (RV.not rfl) rfl ?_
  refine OW.rv (RV.move rfl) rfl ?_
  (first | (refine OW.want rfl ?_; refine OW.rv (RV.move rfl) rfl ?_) | refine OW.skip rfl rfl rfl ?_)
  (first | (refine OW.want rfl ?_; refine OW.rv (RV.move rfl) rfl ?_) | refine OW.skip rfl rfl rfl ?_)
  (first | (refine OW.want rfl ?_; refine OW.call Try.call9 rfl (equal_true w0 _ _ _ _ _ _ (hO o3 _ hq3.1 hq3.2 (by simp)) (hO o4 _ hq4.1 hq4.2 (by simp)) rfl rfl (by omega)) rfl (fun u hu => ?_)) | refine OW.skip rfl rfl rfl ?_)
  (first | (refine OW.want rfl ?_; refine OW.rv (RV.not rfl) rfl ?_) | refine OW.skip rfl rfl rfl ?_)
  (first | refine OW.rv (RV.pick_t rfl rfl rfl) rfl ?_ | refine OW.rv (RV.pick_f rfl rfl rfl) rfl ?_ | refine OW.rv (RV.pick rfl rfl rfl) rfl ?_)
  refine OW.rv (RV.move rfl) rfl ?_
  (first | (refine OW.want rfl ?_; refine OW.rv (RV.move rfl) rfl ?_) | refine OW.skip rfl rfl rfl ?_)
  (first | (refine OW.want rfl ?_; refine OW.rv (RV.move rfl) rfl ?_) | refine OW.skip rfl rfl rfl ?_)
  (first | (refine OW.want rfl ?_; refine OW.rv (RV.len rfl rfl) rfl ?_) | refine OW.skip rfl rfl rfl ?_)
  (first | (refine OW.want rfl ?_; (first | refine OW.rv (RV.idx_os _ rfl rfl rfl rfl rfl (by first | rfl | assumption) (by omega)) rfl ?_ | refine OW.rv (RV.idx_rs _ rfl rfl rfl rfl rfl (by first | rfl | assumption) (by omega)) rfl ?_)) | refine OW.skip rfl rfl rfl ?_)
  (first | (refine OW.want rfl ?_; (first | refine OW.rv (RV.loadW rfl (by (repeat (first | exact List.Mem.head _ | refine List.Mem.tail _ ?_)); done) (by first | rfl | assumption) rfl rfl rfl (by first | assumption | rfl | exact (u8s_length _).trans (by assumption) | exact (u64s_length _).trans (by assumption) | exact (u32s_length _).trans (by assumption) | (simp; done) | (simp [*]; done) | (simp [*]; rfl))) rfl ?_ | refine OW.rv (RV.loadAo rfl (by (repeat (first | exact List.Mem.head _ | refine List.Mem.tail _ ?_)); done) (by first | rfl | assumption) rfl rfl rfl (by assumption) (by first | assumption | rfl | exact (u8s_length _).trans (by assumption) | exact (u64s_length _).trans (by assumption) | exact (u32s_length _).trans (by assumption) | (simp; done) | (simp [*]; done) | (simp [*]; rfl))) rfl ?_ | refine OW.rv (RV.loadAs rfl rfl rfl rfl (by (repeat (first | assumption | refine Mem.Says.cons ?_)); done) (by first | assumption | rfl | exact (u8s_length _).trans (by assumption) | exact (u64s_length _).trans (by assumption) | exact (u32s_length _).trans (by assumption) | (simp; done) | (simp [*]; done) | (simp [*]; rfl))) rfl ?_)) | refine OW.skip rfl rfl rfl ?_)
  (first | (refine OW.want rfl ?_; refine OW.rv (RV.buildA (l := u8s (List.replicate 256 0#8)) (cs := u8s markB) rfl rfl rfl (by rw [← u8s_rep']; rfl) rfl rfl (by first | assumption | rfl)) rfl ?_) | refine OW.skip rfl rfl rfl ?_)
  (first | (refine OW.want rfl ?_; (first | refine OW.rv (RV.neA8_f rfl rfl rfl rfl rfl rfl (by first | assumption | rfl | exact (u8s_length _).trans (by assumption) | exact (u64s_length _).trans (by assumption) | exact (u32s_length _).trans (by assumption) | (simp; done) | (simp [*]; done) | (simp [*]; rfl)) (by first | rfl | assumption)) rfl ?_ | refine OW.rv (RV.neA8 rfl rfl rfl rfl rfl rfl (by first | assumption | rfl | exact (u8s_length _).trans (by assumption) | exact (u64s_length _).trans (by assumption) | exact (u32s_length _).trans (by assumption) | (simp; done) | (simp [*]; done) | (simp [*]; rfl)) (by first | assumption | rfl | exact (u8s_length _).trans (by assumption) | exact (u64s_length _).trans (by assumption) | exact (u32s_length _).trans (by assumption) | (simp; done) | (simp [*]; done) | (simp [*]; rfl))) rfl ?_)) | refine OW.skip rfl rfl rfl ?_)
  (first | refine OW.rv (RV.pick_t rfl rfl rfl) rfl ?_ | refine OW.rv (RV.pick_f rfl rfl rfl) rfl ?_ | refine OW.rv (RV.pick rfl rfl rfl) rfl ?_)
  refine OW.nil ?_
  (repeat (first | refine CW.seq ?_ | refine QW.then_n ?_ | refine CW.block ?_ | refine CW.ret ?_ | refine CW.skip ?_ | refine CW.exit ?_ | refine QW.then_x ?_ | refine QW.then_r ?_ | refine QW.block_n ?_ | refine QW.block_xe ?_ | refine QW.block_xn rfl ?_ | refine QW.block_r ?_))
  (first | refine CW.cond_t rfl ?_ | refine CW.cond_f rfl ?_ | refine CW.cond_p rfl (fun hq => ?_) (fun hq => ?_) | refine CW.cond_np rfl (fun hq => ?_) (fun hq => ?_) | refine CW.cond rfl (fun hq => ?_) (fun hq => ?_))
  (repeat (first | refine CW.seq ?_ | refine QW.then_n ?_ | refine CW.block ?_ | refine CW.ret ?_ | refine CW.skip ?_ | refine CW.exit ?_ | refine QW.then_x ?_ | refine QW.then_r ?_ | refine QW.block_n ?_ | refine QW.block_xe ?_ | refine QW.block_xn rfl ?_ | refine QW.block_r ?_))
  refine CW.region ?_
  refine OW.rv (RV.assign rfl) rfl ?_
  refine OW.nil ?_
  (repeat (first | refine CW.seq ?_ | refine QW.then_n ?_ | refine CW.block ?_ | refine CW.ret ?_ | refine CW.skip ?_ | refine CW.exit ?_ | refine QW.then_x ?_ | refine QW.then_r ?_ | refine QW.block_n ?_ | refine QW.block_xe ?_ | refine QW.block_xn rfl ?_ | refine QW.block_r ?_))
  refine CW.loop (σ := Nat × List Int) (fun s => s.1 ≤ (intsB a 2048).length ∧ s.2.length = (intsB a 2048).length) (fun s => [(4, ptr (some b4) 0), (10, sl o1.1 0 (intsB a 2048).length o1.2.2), (11, sl o3.1 0 (intsB a 2048).length o3.2.2), (12, sl o4.1 0 (intsB a 2048).length o4.2.2), (13, .int .i64 (s.1 : Int))])
    (fun s => (o1.1, blk (i64s s.2 ++ o1.2.1) 3) :: (o4.1, blk (i64s (intsB a 2048) ++ o4.2.1) 3) :: (o3.1, blk (i64s (intsB a 2048) ++ o3.2.1) 3) :: (some b4, blk (u8s a) 24) :: M) (fun s => (intsB a 2048).length - s.1) (0, intsB a 2048) ⟨by simp, rfl⟩ ⟨rfl, rfl, rfl, rfl, rfl, trivial⟩ (fun _ m => by
      have m := m.rot3
      have m := m.sublist (M' := (o1.1, blk (i64s (intsB a 2048) ++ o1.2.1) 3) :: (o4.1, blk (i64s (intsB a 2048) ++ o4.2.1) 3) :: (o3.1, blk (i64s (intsB a 2048) ++ o3.2.1) 3) :: (some b4, blk (u8s a) 24) :: M) (by
        refine List.Sublist.cons_cons _ (List.Sublist.cons_cons _ (List.Sublist.cons_cons _ (List.Sublist.cons _ (List.Sublist.cons _ (List.Sublist.cons _ (List.Sublist.refl _))))))
      )
      exact m) ?_
  rintro ⟨i, ys⟩ ⟨hi, hy⟩
  dsimp only at hi hy ⊢
  have hyl : (i64s ys).length = (intsB a 2048).length := (i64s_length ys).trans hy
  (repeat (first | refine CW.seq ?_ | refine QW.then_n ?_ | refine CW.block ?_ | refine CW.ret ?_ | refine CW.skip ?_ | refine CW.exit ?_ | refine QW.then_x ?_ | refine QW.then_r ?_ | refine QW.block_n ?_ | refine QW.block_xe ?_ | refine QW.block_xn rfl ?_ | refine QW.block_r ?_))
  refine CW.region ?_
  refine OW.rv (RV.move rfl) rfl ?_
  refine OW.rv (RV.move rfl) rfl ?_
  refine OW.rv (RV.len rfl rfl) rfl ?_
  refine OW.rv (RV.lss rfl rfl) rfl ?_
  refine OW.nil ?_
  (repeat (first | refine CW.seq ?_ | refine QW.then_n ?_ | refine CW.block ?_ | refine CW.ret ?_ | refine CW.skip ?_ | refine CW.exit ?_ | refine QW.then_x ?_ | refine QW.then_r ?_ | refine QW.block_n ?_ | refine QW.block_xe ?_ | refine QW.block_xn rfl ?_ | refine QW.block_r ?_))
  (first | refine CW.cond_t rfl ?_ | refine CW.cond_f rfl ?_ | refine CW.cond_p rfl (fun hlt => ?_) (fun hlt => ?_) | refine CW.cond_np rfl (fun hlt => ?_) (fun hlt => ?_) | refine CW.cond rfl (fun hlt => ?_) (fun hlt => ?_))
  · have ho1 : o1.1.isSome = true := by
      rcases hoo : o1.1 with _ | k
      · have := hq1.2 hoo
        have h1 := hq1.1
        rw [List.length_append] at h1
        omega
      · rfl
    have hl : 0 + i < (i64s ys ++ o1.2.1).length := by rw [List.length_append]; omega
    (repeat (first | refine CW.seq ?_ | refine QW.then_n ?_ | refine CW.block ?_ | refine CW.ret ?_ | refine CW.skip ?_ | refine CW.exit ?_ | refine QW.then_x ?_ | refine QW.then_r ?_ | refine QW.block_n ?_ | refine QW.block_xe ?_ | refine QW.block_xn rfl ?_ | refine QW.block_r ?_))
    refine CW.region ?_
    refine OW.rv (RV.move rfl) rfl ?_
    refine OW.rv (RV.move rfl) rfl ?_
    (first | refine OW.rv (RV.idx_o _ rfl rfl rfl rfl rfl (by first | rfl | assumption) (by omega)) rfl ?_ | refine OW.rv (RV.idx_r _ rfl rfl rfl rfl rfl (by first | rfl | assumption) (by omega)) rfl ?_ | refine OW.rv (RV.idx_oz rfl rfl (by omega) rfl rfl (by first | rfl | assumption) (by omega)) rfl ?_ | refine OW.rv (RV.idx_rz rfl rfl (by omega) rfl rfl (by first | rfl | assumption) (by omega)) rfl ?_)
    (first | refine OW.sv (SV.store rfl (by first | rfl | assumption) rfl rfl rfl (by first | assumption | (simp; done) | (simp; omega) | omega)) ?_ | (refine OW.rot1 ?_; refine OW.sv (SV.store rfl (by first | rfl | assumption) rfl rfl rfl (by first | assumption | (simp; done) | (simp; omega) | omega)) ?_) | (refine OW.rot2 ?_; refine OW.sv (SV.store rfl (by first | rfl | assumption) rfl rfl rfl (by first | assumption | (simp; done) | (simp; omega) | omega)) ?_) | (refine OW.rot3 ?_; refine OW.sv (SV.store rfl (by first | rfl | assumption) rfl rfl rfl (by first | assumption | (simp; done) | (simp; omega) | omega)) ?_) | (refine OW.rot4 ?_; refine OW.sv (SV.store rfl (by first | rfl | assumption) rfl rfl rfl (by first | assumption | (simp; done) | (simp; omega) | omega)) ?_))
    refine OW.nil ?_
    (repeat (first | refine CW.seq ?_ | refine QW.then_n ?_ | refine CW.block ?_ | refine CW.ret ?_ | refine CW.skip ?_ | refine CW.exit ?_ | refine QW.then_x ?_ | refine QW.then_r ?_ | refine QW.block_n ?_ | refine QW.block_xe ?_ | refine QW.block_xn rfl ?_ | refine QW.block_r ?_))
    (repeat (first | refine CW.seq ?_ | refine QW.then_n ?_ | refine CW.block ?_ | refine CW.ret ?_ | refine CW.skip ?_ | refine CW.exit ?_ | refine QW.then_x ?_ | refine QW.then_r ?_ | refine QW.block_n ?_ | refine QW.block_xe ?_ | refine QW.block_xn rfl ?_ | refine QW.block_r ?_))
    refine CW.region ?_
    refine OW.rv (RV.move rfl) rfl ?_
    refine OW.rv (RV.add rfl rfl (by omega)) rfl ?_
    refine OW.rv (RV.assign rfl) rfl ?_
    refine OW.nil ?_
    (repeat (first | refine CW.seq ?_ | refine QW.then_n ?_ | refine CW.block ?_ | refine CW.ret ?_ | refine CW.skip ?_ | refine CW.exit ?_ | refine QW.then_x ?_ | refine QW.then_r ?_ | refine QW.block_n ?_ | refine QW.block_xe ?_ | refine QW.block_xn rfl ?_ | refine QW.block_r ?_))
    refine QW.again (i + 1, ys.set i (-7)) ⟨by show i + 1 ≤ _; omega, by simp [hy]⟩ (by show _ - (i + 1) < _ - i; omega) ⟨rfl, rfl, rfl, rfl, rfl, trivial⟩ (fun _ m => ?_)
    rw [i64s_set_left (by omega)] at m
    exact m
  (repeat (first | refine CW.seq ?_ | refine QW.then_n ?_ | refine CW.block ?_ | refine CW.ret ?_ | refine CW.skip ?_ | refine CW.exit ?_ | refine QW.then_x ?_ | refine QW.then_r ?_ | refine QW.block_n ?_ | refine QW.block_xe ?_ | refine QW.block_xn rfl ?_ | refine QW.block_r ?_))
  refine CW.region ?_
  refine OW.rv (RV.assign rfl) rfl ?_
  refine OW.nil ?_
  (repeat (first | refine CW.seq ?_ | refine QW.then_n ?_ | refine CW.block ?_ | refine CW.ret ?_ | refine CW.skip ?_ | refine CW.exit ?_ | refine QW.then_x ?_ | refine QW.then_r ?_ | refine QW.block_n ?_ | refine QW.block_xe ?_ | refine QW.block_xn rfl ?_ | refine QW.block_r ?_))
  refine CW.loop (σ := Nat × Option Nat × List Int × List Value × Nat) (fun s => s.1 ≤ 64 ∧ s.2.2.1.length = (intsB a 2048).length + s.1 ∧ (i64s s.2.2.1 ++ s.2.2.2.1).length = s.2.2.2.2 ∧ (s.2.1 = none → s.2.2.2.2 = 0)) (fun s => [(4, ptr (some b4) 0), (10, sl s.2.1 0 ((intsB a 2048).length + s.1) s.2.2.2.2), (11, sl o3.1 0 (intsB a 2048).length o3.2.2), (12, sl o4.1 0 (intsB a 2048).length o4.2.2), (14, .int .i64 (s.1 : Int))])
    (fun s => (s.2.1, blk (i64s s.2.2.1 ++ s.2.2.2.1) 3) :: (o4.1, blk (i64s (intsB a 2048) ++ o4.2.1) 3) :: (o3.1, blk (i64s (intsB a 2048) ++ o3.2.1) 3) :: (some b4, blk (u8s a) 24) :: M) (fun s => 64 - s.1) (0, o1.1, ys, o1.2.1, o1.2.2) ⟨by simp, hy, (by rw [List.length_append, hyl, ← hi1, ← List.length_append]; exact hq1.1), hq1.2⟩ ⟨rfl, rfl, rfl, rfl, rfl, trivial⟩ (fun _ m => m) ?_
  clear hyl hlt hi hy ys i
  rintro ⟨i, ob, ys, r, cap⟩ ⟨hi, hy, hr, hob⟩
  dsimp only at hi hy hr hob ⊢
  have hyl : (i64s ys).length = (intsB a 2048).length + i := (i64s_length ys).trans hy
  (repeat (first | refine CW.seq ?_ | refine QW.then_n ?_ | refine CW.block ?_ | refine CW.ret ?_ | refine CW.skip ?_ | refine CW.exit ?_ | refine QW.then_x ?_ | refine QW.then_r ?_ | refine QW.block_n ?_ | refine QW.block_xe ?_ | refine QW.block_xn rfl ?_ | refine QW.block_r ?_))
  refine CW.region ?_
  refine OW.rv (RV.move rfl) rfl ?_
  refine OW.rv (RV.lss rfl rfl) rfl ?_
  refine OW.nil ?_
  (repeat (first | refine CW.seq ?_ | refine QW.then_n ?_ | refine CW.block ?_ | refine CW.ret ?_ | refine CW.skip ?_ | refine CW.exit ?_ | refine QW.then_x ?_ | refine QW.then_r ?_ | refine QW.block_n ?_ | refine QW.block_xe ?_ | refine QW.block_xn rfl ?_ | refine QW.block_r ?_))
  (first | refine CW.cond_t rfl ?_ | refine CW.cond_f rfl ?_ | refine CW.cond_p rfl (fun hlt => ?_) (fun hlt => ?_) | refine CW.cond_np rfl (fun hlt => ?_) (fun hlt => ?_) | refine CW.cond rfl (fun hlt => ?_) (fun hlt => ?_))
  · (repeat (first | refine CW.seq ?_ | refine QW.then_n ?_ | refine CW.block ?_ | refine CW.ret ?_ | refine CW.skip ?_ | refine CW.exit ?_ | refine QW.then_x ?_ | refine QW.then_r ?_ | refine QW.block_n ?_ | refine QW.block_xe ?_ | refine QW.block_xn rfl ?_ | refine QW.block_r ?_))
    refine CW.region ?_
    refine OW.rv (RV.move rfl) rfl ?_
    (first | refine OW.push rfl rfl rfl rfl rfl rfl rfl rfl (by first | assumption | rfl | simp | omega) (by first | assumption | rfl | (simp; done)) (by first | assumption | exact (fun _ => rfl) | exact (fun h => nomatch h)) (by omega) (by simp only [i3]; omega) rfl rfl (fun b109 ob109 r109 cap109 hr109 hn109 => ?_) | (refine OW.rot1 ?_; refine OW.push rfl rfl rfl rfl rfl rfl rfl rfl (by first | assumption | rfl | simp | omega) (by first | assumption | rfl | (simp; done)) (by first | assumption | exact (fun _ => rfl) | exact (fun h => nomatch h)) (by omega) (by simp only [i3]; omega) rfl rfl (fun b109 ob109 r109 cap109 hr109 hn109 => ?_)) | (refine OW.rot2 ?_; refine OW.push rfl rfl rfl rfl rfl rfl rfl rfl (by first | assumption | rfl | simp | omega) (by first | assumption | rfl | (simp; done)) (by first | assumption | exact (fun _ => rfl) | exact (fun h => nomatch h)) (by omega) (by simp only [i3]; omega) rfl rfl (fun b109 ob109 r109 cap109 hr109 hn109 => ?_)) | (refine OW.rot3 ?_; refine OW.push rfl rfl rfl rfl rfl rfl rfl rfl (by first | assumption | rfl | simp | omega) (by first | assumption | rfl | (simp; done)) (by first | assumption | exact (fun _ => rfl) | exact (fun h => nomatch h)) (by omega) (by simp only [i3]; omega) rfl rfl (fun b109 ob109 r109 cap109 hr109 hn109 => ?_)))
    refine OW.rv (RV.assign rfl) rfl ?_
    refine OW.nil ?_
    (repeat (first | refine CW.seq ?_ | refine QW.then_n ?_ | refine CW.block ?_ | refine CW.ret ?_ | refine CW.skip ?_ | refine CW.exit ?_ | refine QW.then_x ?_ | refine QW.then_r ?_ | refine QW.block_n ?_ | refine QW.block_xe ?_ | refine QW.block_xn rfl ?_ | refine QW.block_r ?_))
    (repeat (first | refine CW.seq ?_ | refine QW.then_n ?_ | refine CW.block ?_ | refine CW.ret ?_ | refine CW.skip ?_ | refine CW.exit ?_ | refine QW.then_x ?_ | refine QW.then_r ?_ | refine QW.block_n ?_ | refine QW.block_xe ?_ | refine QW.block_xn rfl ?_ | refine QW.block_r ?_))
    refine CW.region ?_
    refine OW.rv (RV.move rfl) rfl ?_
    refine OW.rv (RV.add rfl rfl (by omega)) rfl ?_
    refine OW.rv (RV.assign rfl) rfl ?_
    refine OW.nil ?_
    (repeat (first | refine CW.seq ?_ | refine QW.then_n ?_ | refine CW.block ?_ | refine CW.ret ?_ | refine CW.skip ?_ | refine CW.exit ?_ | refine QW.then_x ?_ | refine QW.then_r ?_ | refine QW.block_n ?_ | refine QW.block_xe ?_ | refine QW.block_xn rfl ?_ | refine QW.block_r ?_))
    have e2 : i64s ys ++ [Value.int .i64 (-8)] = i64s (ys ++ [-8]) := by simp [i64s]
    rw [e2] at hr109
    refine QW.again (i + 1, ob109, ys ++ [-8], r109, cap109) ⟨by show i + 1 ≤ 64; omega, by rw [List.length_append, hy]; rfl, hr109, hn109⟩ (by show 64 - (i + 1) < 64 - i; omega) ⟨rfl, rfl, rfl, rfl, rfl, trivial⟩ (fun _ m => by rw [← e2]; exact m)
  (repeat (first | refine CW.seq ?_ | refine QW.then_n ?_ | refine CW.block ?_ | refine CW.ret ?_ | refine CW.skip ?_ | refine CW.exit ?_ | refine QW.then_x ?_ | refine QW.then_r ?_ | refine QW.block_n ?_ | refine QW.block_xe ?_ | refine QW.block_xn rfl ?_ | refine QW.block_r ?_))
  refine CW.region ?_
  refine OW.rv (RV.move rfl) rfl ?_
  refine OW.rv (RV.move rfl) rfl ?_
  refine OW.call Try.call9 rfl (equal_true w0 _ _ _ _ _ _ (hO o3 _ hq3.1 hq3.2 (by simp)) (hO o4 _ hq4.1 hq4.2 (by simp)) rfl rfl (by omega)) rfl (fun u hu => ?_)
  refine OW.rv (RV.move rfl) rfl ?_
  (first | (refine OW.want rfl ?_; (first | refine OW.rv (RV.loadW rfl (by (repeat (first | exact List.Mem.head _ | refine List.Mem.tail _ ?_)); done) (by first | rfl | assumption) rfl rfl rfl (by first | assumption | rfl | exact (u8s_length _).trans (by assumption) | exact (u64s_length _).trans (by assumption) | exact (u32s_length _).trans (by assumption) | (simp; done) | (simp [*]; done) | (simp [*]; rfl))) rfl ?_ | refine OW.rv (RV.loadAo rfl (by (repeat (first | exact List.Mem.head _ | refine List.Mem.tail _ ?_)); done) (by first | rfl | assumption) rfl rfl rfl (by assumption) (by first | assumption | rfl | exact (u8s_length _).trans (by assumption) | exact (u64s_length _).trans (by assumption) | exact (u32s_length _).trans (by assumption) | (simp; done) | (simp [*]; done) | (simp [*]; rfl))) rfl ?_ | refine OW.rv (RV.loadAs rfl rfl rfl rfl (by (repeat (first | assumption | refine Mem.Says.cons ?_)); done) (by first | assumption | rfl | exact (u8s_length _).trans (by assumption) | exact (u64s_length _).trans (by assumption) | exact (u32s_length _).trans (by assumption) | (simp; done) | (simp [*]; done) | (simp [*]; rfl))) rfl ?_)) | refine OW.skip rfl rfl rfl ?_)
  (first | (refine OW.want rfl ?_; refine OW.call Try.call16 rfl (bits_does w0 _ _ ha) rfl (fun o5 hq5 => ?_)) | refine OW.skip rfl rfl rfl ?_)
  (first | (refine OW.want rfl ?_; refine OW.rv (RV.move rfl) rfl ?_) | refine OW.skip rfl rfl rfl ?_)
  (first | (refine OW.want rfl ?_; refine OW.call Try.call9 rfl (equal_true w0 _ _ _ _ _ _ (hO o5 _ hq5.1 hq5.2 (by simp)) (hO o4 _ hq4.1 hq4.2 (by simp)) rfl rfl (by omega)) rfl (fun u hu => ?_)) | refine OW.skip rfl rfl rfl ?_)
  (first | refine OW.rv (RV.pick_t rfl rfl rfl) rfl ?_ | refine OW.rv (RV.pick_f rfl rfl rfl) rfl ?_ | refine OW.rv (RV.pick rfl rfl rfl) rfl ?_)
  refine OW.rv (RV.assign rfl) rfl ?_
  refine OW.nil ?_
  (repeat (first | refine CW.seq ?_ | refine QW.then_n ?_ | refine CW.block ?_ | refine CW.ret ?_ | refine CW.skip ?_ | refine CW.exit ?_ | refine QW.then_x ?_ | refine QW.then_r ?_ | refine QW.block_n ?_ | refine QW.block_xe ?_ | refine QW.block_xn rfl ?_ | refine QW.block_r ?_))
  exact QW.ret1 rfl () trivial rfl (fun _ m => m.tail.tail.tail.tail.tail)
end Go.Fw.Try
