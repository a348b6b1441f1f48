/- Part of a proof: rules that its law uses. -/
import Derived.Test.YtogfjkomkpbjpaaDoorTy
import Derived.Test.YtogfjkomkpbjpaaDoorKecL
namespace Go.Fw.Tryd
open Go Go.Proofs
set_option maxRecDepth 100000
set_option linter.unusedVariables false
def z25 : List Int := List.replicate 25 0
theorem i64s_set1 (l : List Int) (i : Nat) (v : Int) : (i64s l).set i (.int .i64 v) = i64s (l.set i v) := by simp [i64s, List.map_set]
theorem getD_set_int1 (l : List Int) (k : Nat) (v : Int) (i : Nat) (hk : k < l.length) : (l.set k v).getD i 0 = if i = k then v else l.getD i 0 := by
  simp only [List.getD, List.getElem?_set]
  by_cases h : k = i
  · subst h; simp [hk]
  · simp [h, Ne.symm h]
theorem rotl_does (w0 : World) (M : List Ent) (x : BitVec 64) (k : Int) (h0 : 0 ≤ k) (h1 : k < 64) : Does Tryd.prog 34 [U64 x, .int .i64 k] w0 M (τ := Unit) (fun _ => True) (fun _ => U64 (rotl x k.toNat)) (fun _ => M) := by
  refine Does.enter Tryd.func34 rfl Tryd.ntmps34 rfl ?_
  (repeat (first | refine CW.seq ?_ | refine QW.then_n ?_ | refine CW.block ?_ | refine CW.ret ?_ | refine CW.skip ?_ | refine CW.exit ?_ | refine QW.then_x ?_ | refine QW.then_r ?_ | refine QW.block_n ?_ | refine QW.block_xe ?_ | refine QW.block_xn rfl ?_ | refine QW.block_r ?_))
  refine CW.region ?_
  refine OW.rv (RV.assign rfl) rfl ?_
  refine OW.nil ?_
  (repeat (first | refine CW.seq ?_ | refine QW.then_n ?_ | refine CW.block ?_ | refine CW.ret ?_ | refine CW.skip ?_ | refine CW.exit ?_ | refine QW.then_x ?_ | refine QW.then_r ?_ | refine QW.block_n ?_ | refine QW.block_xe ?_ | refine QW.block_xn rfl ?_ | refine QW.block_r ?_))
  (repeat (first | refine CW.seq ?_ | refine QW.then_n ?_ | refine CW.block ?_ | refine CW.ret ?_ | refine CW.skip ?_ | refine CW.exit ?_ | refine QW.then_x ?_ | refine QW.then_r ?_ | refine QW.block_n ?_ | refine QW.block_xe ?_ | refine QW.block_xn rfl ?_ | refine QW.block_r ?_))
  refine CW.region ?_
  refine OW.rv (RV.move rfl) rfl ?_
  refine OW.rv (RV.conv_i64 rfl rfl rfl) rfl ?_
  refine OW.rv (RV.and64 rfl (by first | rfl | exact lit64 _ rfl) rfl (by first | rfl | exact lit64 _ rfl)) rfl ?_
  refine OW.rv (RV.assign rfl) rfl ?_
  refine OW.nil ?_
  (repeat (first | refine CW.seq ?_ | refine QW.then_n ?_ | refine CW.block ?_ | refine CW.ret ?_ | refine CW.skip ?_ | refine CW.exit ?_ | refine QW.then_x ?_ | refine QW.then_r ?_ | refine QW.block_n ?_ | refine QW.block_xe ?_ | refine QW.block_xn rfl ?_ | refine QW.block_r ?_))
  (repeat (first | refine CW.seq ?_ | refine QW.then_n ?_ | refine CW.block ?_ | refine CW.ret ?_ | refine CW.skip ?_ | refine CW.exit ?_ | refine QW.then_x ?_ | refine QW.then_r ?_ | refine QW.block_n ?_ | refine QW.block_xe ?_ | refine QW.block_xn rfl ?_ | refine QW.block_r ?_))
  refine CW.region ?_
  refine OW.rv (RV.move rfl) rfl ?_
  refine OW.rv (RV.move rfl) rfl ?_
  (first | refine OW.rv (RV.shl64 rfl (by first | rfl | exact lit64 _ rfl) rfl rfl) rfl ?_ | refine OW.rv (RV.shl64_i rfl (by first | rfl | exact lit64 _ rfl) rfl (by omega)) rfl ?_)
  refine OW.rv (RV.move rfl) rfl ?_
  refine OW.rv (RV.move rfl) rfl ?_
  refine OW.rv (RV.sub64 rfl (by first | rfl | exact lit64 _ rfl) rfl (by first | rfl | exact lit64 _ rfl)) rfl ?_
  (first | refine OW.rv (RV.shr64 rfl (by first | rfl | exact lit64 _ rfl) rfl rfl) rfl ?_ | refine OW.rv (RV.shr64_i rfl (by first | rfl | exact lit64 _ rfl) rfl (by omega)) rfl ?_)
  refine OW.rv (RV.or64 rfl (by first | rfl | exact lit64 _ rfl) rfl (by first | rfl | exact lit64 _ rfl)) rfl ?_
  refine OW.rv (RV.assign rfl) rfl ?_
  refine OW.nil ?_
  (repeat (first | refine CW.seq ?_ | refine QW.then_n ?_ | refine CW.block ?_ | refine CW.ret ?_ | refine CW.skip ?_ | refine CW.exit ?_ | refine QW.then_x ?_ | refine QW.then_r ?_ | refine QW.block_n ?_ | refine QW.block_xe ?_ | refine QW.block_xn rfl ?_ | refine QW.block_r ?_))
  refine QW.ret1 rfl () trivial ?_ (fun _ m => m)
  obtain ⟨m, rfl⟩ : ∃ m : Nat, k = m := ⟨k.toNat, by omega⟩
  have hm : m < 64 := by omega
  have e1 : (BitVec.ofInt 64 (m : Int) &&& 63#64).toNat = m := rot_and ⟨m, hm⟩
  have e2 : (64#64 - (BitVec.ofInt 64 (m : Int) &&& 63#64)).toNat = 64 - m := rot_sub ⟨m, hm⟩
  have e : x <<< (BitVec.ofInt 64 (m : Int) &&& 63#64).toNat ||| x >>> (64#64 - (BitVec.ofInt 64 (m : Int) &&& 63#64)).toNat = rotl x m := by rw [e1, e2]; rfl
  show _ = some (U64 (rotl x m))
  rw [← e]; rfl
theorem numbers_does (w0 : World) (M : List Ent) : Does Tryd.prog 33 [] w0 M (τ := Unit) (fun _ => True) (fun _ => .agg (u64s roundsL).toArray) (fun _ => M) := by
  have hl : roundsL.length = 24 := rfl
  refine Does.enter Tryd.func33 rfl Tryd.ntmps33 rfl ?_
  (repeat (first | refine CW.seq ?_ | refine QW.then_n ?_ | refine CW.block ?_ | refine CW.ret ?_ | refine CW.skip ?_ | refine CW.exit ?_ | refine QW.then_x ?_ | refine QW.then_r ?_ | refine QW.block_n ?_ | refine QW.block_xe ?_ | refine QW.block_xn rfl ?_ | refine QW.block_r ?_))
  refine CW.region ?_
  refine OW.alloc (l := u64s (List.replicate 24 0#64)) rfl (by rw [← u64s_rep]; rfl) rfl (fun b0 => ?_)
  refine OW.nil ?_
  (repeat (first | refine CW.seq ?_ | refine QW.then_n ?_ | refine CW.block ?_ | refine CW.ret ?_ | refine CW.skip ?_ | refine CW.exit ?_ | refine QW.then_x ?_ | refine QW.then_r ?_ | refine QW.block_n ?_ | refine QW.block_xe ?_ | refine QW.block_xn rfl ?_ | refine QW.block_r ?_))
  (repeat (first | refine CW.seq ?_ | refine QW.then_n ?_ | refine CW.block ?_ | refine CW.ret ?_ | refine CW.skip ?_ | refine CW.exit ?_ | refine QW.then_x ?_ | refine QW.then_r ?_ | refine QW.block_n ?_ | refine QW.block_xe ?_ | refine QW.block_xn rfl ?_ | refine QW.block_r ?_))
  refine CW.region ?_
  refine OW.rv (RV.buildA (l := u64s (List.replicate 24 0#64)) (cs := u64s roundsL) rfl rfl rfl (by rw [← u64s_rep]; rfl) rfl rfl (by first | assumption | rfl)) rfl ?_
  (first | (first | refine OW.sv (SV.storeW rfl (by first | rfl | assumption) rfl (by first | exact u64s_one _ | assumption) rfl (by first | assumption | exact (u64s_length _).trans (List.length_replicate ..) | exact (u64s_length _).trans (by assumption) | rfl | (simp; done) | (simp [*]; done) | (simp [*]; rfl)) (by first | assumption | exact (u64s_length _).trans (List.length_replicate ..) | exact (u64s_length _).trans (by assumption) | rfl | (simp; done) | (simp [*]; done) | (simp [*]; rfl))) ?_ | refine OW.sv (SV.storeAs rfl (by first | rfl | assumption) rfl (by first | exact u64s_one _ | assumption) rfl (by first | assumption | exact (u64s_length _).trans (List.length_replicate ..) | exact (u64s_length _).trans (by assumption) | rfl | (simp; done) | (simp [*]; done) | (simp [*]; rfl)) (by first | assumption | (simp; done) | (simp; omega) | omega)) ?_) | (refine OW.rot1 ?_; (first | refine OW.sv (SV.storeW rfl (by first | rfl | assumption) rfl (by first | exact u64s_one _ | assumption) rfl (by first | assumption | exact (u64s_length _).trans (List.length_replicate ..) | exact (u64s_length _).trans (by assumption) | rfl | (simp; done) | (simp [*]; done) | (simp [*]; rfl)) (by first | assumption | exact (u64s_length _).trans (List.length_replicate ..) | exact (u64s_length _).trans (by assumption) | rfl | (simp; done) | (simp [*]; done) | (simp [*]; rfl))) ?_ | refine OW.sv (SV.storeAs rfl (by first | rfl | assumption) rfl (by first | exact u64s_one _ | assumption) rfl (by first | assumption | exact (u64s_length _).trans (List.length_replicate ..) | exact (u64s_length _).trans (by assumption) | rfl | (simp; done) | (simp [*]; done) | (simp [*]; rfl)) (by first | assumption | (simp; done) | (simp; omega) | omega)) ?_)) | (refine OW.rot2 ?_; (first | refine OW.sv (SV.storeW rfl (by first | rfl | assumption) rfl (by first | exact u64s_one _ | assumption) rfl (by first | assumption | exact (u64s_length _).trans (List.length_replicate ..) | exact (u64s_length _).trans (by assumption) | rfl | (simp; done) | (simp [*]; done) | (simp [*]; rfl)) (by first | assumption | exact (u64s_length _).trans (List.length_replicate ..) | exact (u64s_length _).trans (by assumption) | rfl | (simp; done) | (simp [*]; done) | (simp [*]; rfl))) ?_ | refine OW.sv (SV.storeAs rfl (by first | rfl | assumption) rfl (by first | exact u64s_one _ | assumption) rfl (by first | assumption | exact (u64s_length _).trans (List.length_replicate ..) | exact (u64s_length _).trans (by assumption) | rfl | (simp; done) | (simp [*]; done) | (simp [*]; rfl)) (by first | assumption | (simp; done) | (simp; omega) | omega)) ?_)) | (refine OW.rot3 ?_; (first | refine OW.sv (SV.storeW rfl (by first | rfl | assumption) rfl (by first | exact u64s_one _ | assumption) rfl (by first | assumption | exact (u64s_length _).trans (List.length_replicate ..) | exact (u64s_length _).trans (by assumption) | rfl | (simp; done) | (simp [*]; done) | (simp [*]; rfl)) (by first | assumption | exact (u64s_length _).trans (List.length_replicate ..) | exact (u64s_length _).trans (by assumption) | rfl | (simp; done) | (simp [*]; done) | (simp [*]; rfl))) ?_ | refine OW.sv (SV.storeAs rfl (by first | rfl | assumption) rfl (by first | exact u64s_one _ | assumption) rfl (by first | assumption | exact (u64s_length _).trans (List.length_replicate ..) | exact (u64s_length _).trans (by assumption) | rfl | (simp; done) | (simp [*]; done) | (simp [*]; rfl)) (by first | assumption | (simp; done) | (simp; omega) | omega)) ?_)) | (refine OW.rot4 ?_; (first | refine OW.sv (SV.storeW rfl (by first | rfl | assumption) rfl (by first | exact u64s_one _ | assumption) rfl (by first | assumption | exact (u64s_length _).trans (List.length_replicate ..) | exact (u64s_length _).trans (by assumption) | rfl | (simp; done) | (simp [*]; done) | (simp [*]; rfl)) (by first | assumption | exact (u64s_length _).trans (List.length_replicate ..) | exact (u64s_length _).trans (by assumption) | rfl | (simp; done) | (simp [*]; done) | (simp [*]; rfl))) ?_ | refine OW.sv (SV.storeAs rfl (by first | rfl | assumption) rfl (by first | exact u64s_one _ | assumption) rfl (by first | assumption | exact (u64s_length _).trans (List.length_replicate ..) | exact (u64s_length _).trans (by assumption) | rfl | (simp; done) | (simp [*]; done) | (simp [*]; rfl)) (by first | assumption | (simp; done) | (simp; omega) | omega)) ?_)) | (refine OW.rot5 ?_; (first | refine OW.sv (SV.storeW rfl (by first | rfl | assumption) rfl (by first | exact u64s_one _ | assumption) rfl (by first | assumption | exact (u64s_length _).trans (List.length_replicate ..) | exact (u64s_length _).trans (by assumption) | rfl | (simp; done) | (simp [*]; done) | (simp [*]; rfl)) (by first | assumption | exact (u64s_length _).trans (List.length_replicate ..) | exact (u64s_length _).trans (by assumption) | rfl | (simp; done) | (simp [*]; done) | (simp [*]; rfl))) ?_ | refine OW.sv (SV.storeAs rfl (by first | rfl | assumption) rfl (by first | exact u64s_one _ | assumption) rfl (by first | assumption | exact (u64s_length _).trans (List.length_replicate ..) | exact (u64s_length _).trans (by assumption) | rfl | (simp; done) | (simp [*]; done) | (simp [*]; rfl)) (by first | assumption | (simp; done) | (simp; omega) | omega)) ?_)) | (refine OW.rot6 ?_; (first | refine OW.sv (SV.storeW rfl (by first | rfl | assumption) rfl (by first | exact u64s_one _ | assumption) rfl (by first | assumption | exact (u64s_length _).trans (List.length_replicate ..) | exact (u64s_length _).trans (by assumption) | rfl | (simp; done) | (simp [*]; done) | (simp [*]; rfl)) (by first | assumption | exact (u64s_length _).trans (List.length_replicate ..) | exact (u64s_length _).trans (by assumption) | rfl | (simp; done) | (simp [*]; done) | (simp [*]; rfl))) ?_ | refine OW.sv (SV.storeAs rfl (by first | rfl | assumption) rfl (by first | exact u64s_one _ | assumption) rfl (by first | assumption | exact (u64s_length _).trans (List.length_replicate ..) | exact (u64s_length _).trans (by assumption) | rfl | (simp; done) | (simp [*]; done) | (simp [*]; rfl)) (by first | assumption | (simp; done) | (simp; omega) | omega)) ?_)))
  refine OW.nil ?_
  (repeat (first | refine CW.seq ?_ | refine QW.then_n ?_ | refine CW.block ?_ | refine CW.ret ?_ | refine CW.skip ?_ | refine CW.exit ?_ | refine QW.then_x ?_ | refine QW.then_r ?_ | refine QW.block_n ?_ | refine QW.block_xe ?_ | refine QW.block_xn rfl ?_ | refine QW.block_r ?_))
  exact QW.retC1 rfl () trivial rfl (List.Mem.head _) rfl rfl rfl rfl ((u64s_length _).trans hl) rfl (fun _ m => m.tail)
theorem ways_does (w0 : World) (M : List Ent) : Does Tryd.prog 32 [] w0 M (τ := Unit) (fun _ => True) (fun _ => .tuple #[.agg (i64s turnsL).toArray, .agg (i64s goesL).toArray]) (fun _ => M) := by
  have hl : turnsL.length = 25 := rfl
  have hz : z25.length = 25 := List.length_replicate ..
  refine Does.enter Tryd.func32 rfl Tryd.ntmps32 rfl ?_
  (repeat (first | refine CW.seq ?_ | refine QW.then_n ?_ | refine CW.block ?_ | refine CW.ret ?_ | refine CW.skip ?_ | refine CW.exit ?_ | refine QW.then_x ?_ | refine QW.then_r ?_ | refine QW.block_n ?_ | refine QW.block_xe ?_ | refine QW.block_xn rfl ?_ | refine QW.block_r ?_))
  refine CW.region ?_
  refine OW.alloc (l := i64s (List.replicate 25 0)) rfl (by rw [← i64s_rep]; rfl) rfl (fun b0 => ?_)
  refine OW.alloc (l := i64s (List.replicate 25 0)) rfl (by rw [← i64s_rep]; rfl) rfl (fun b1 => ?_)
  refine OW.nil ?_
  (repeat (first | refine CW.seq ?_ | refine QW.then_n ?_ | refine CW.block ?_ | refine CW.ret ?_ | refine CW.skip ?_ | refine CW.exit ?_ | refine QW.then_x ?_ | refine QW.then_r ?_ | refine QW.block_n ?_ | refine QW.block_xe ?_ | refine QW.block_xn rfl ?_ | refine QW.block_r ?_))
  (repeat (first | refine CW.seq ?_ | refine QW.then_n ?_ | refine CW.block ?_ | refine CW.ret ?_ | refine CW.skip ?_ | refine CW.exit ?_ | refine QW.then_x ?_ | refine QW.then_r ?_ | refine QW.block_n ?_ | refine QW.block_xe ?_ | refine QW.block_xn rfl ?_ | refine QW.block_r ?_))
  refine CW.region ?_
  refine OW.rv (RV.buildA (l := i64s (List.replicate 25 0)) (cs := i64s turnsL) rfl rfl rfl (by rw [← i64s_rep]; rfl) rfl rfl (by first | assumption | rfl)) rfl ?_
  (first | (first | refine OW.sv (SV.storeW rfl (by first | rfl | assumption) rfl (by first | exact i64s_one _ | assumption) rfl (by first | assumption | exact (i64s_length _).trans (List.length_replicate ..) | exact (i64s_length _).trans (by assumption) | rfl | (simp; done) | (simp [*]; done) | (simp [*]; rfl)) (by first | assumption | exact (i64s_length _).trans (List.length_replicate ..) | exact (i64s_length _).trans (by assumption) | rfl | (simp; done) | (simp [*]; done) | (simp [*]; rfl))) ?_ | refine OW.sv (SV.storeAs rfl (by first | rfl | assumption) rfl (by first | exact i64s_one _ | assumption) rfl (by first | assumption | exact (i64s_length _).trans (List.length_replicate ..) | exact (i64s_length _).trans (by assumption) | rfl | (simp; done) | (simp [*]; done) | (simp [*]; rfl)) (by first | assumption | (simp; done) | (simp; omega) | omega)) ?_) | (refine OW.rot1 ?_; (first | refine OW.sv (SV.storeW rfl (by first | rfl | assumption) rfl (by first | exact i64s_one _ | assumption) rfl (by first | assumption | exact (i64s_length _).trans (List.length_replicate ..) | exact (i64s_length _).trans (by assumption) | rfl | (simp; done) | (simp [*]; done) | (simp [*]; rfl)) (by first | assumption | exact (i64s_length _).trans (List.length_replicate ..) | exact (i64s_length _).trans (by assumption) | rfl | (simp; done) | (simp [*]; done) | (simp [*]; rfl))) ?_ | refine OW.sv (SV.storeAs rfl (by first | rfl | assumption) rfl (by first | exact i64s_one _ | assumption) rfl (by first | assumption | exact (i64s_length _).trans (List.length_replicate ..) | exact (i64s_length _).trans (by assumption) | rfl | (simp; done) | (simp [*]; done) | (simp [*]; rfl)) (by first | assumption | (simp; done) | (simp; omega) | omega)) ?_)) | (refine OW.rot2 ?_; (first | refine OW.sv (SV.storeW rfl (by first | rfl | assumption) rfl (by first | exact i64s_one _ | assumption) rfl (by first | assumption | exact (i64s_length _).trans (List.length_replicate ..) | exact (i64s_length _).trans (by assumption) | rfl | (simp; done) | (simp [*]; done) | (simp [*]; rfl)) (by first | assumption | exact (i64s_length _).trans (List.length_replicate ..) | exact (i64s_length _).trans (by assumption) | rfl | (simp; done) | (simp [*]; done) | (simp [*]; rfl))) ?_ | refine OW.sv (SV.storeAs rfl (by first | rfl | assumption) rfl (by first | exact i64s_one _ | assumption) rfl (by first | assumption | exact (i64s_length _).trans (List.length_replicate ..) | exact (i64s_length _).trans (by assumption) | rfl | (simp; done) | (simp [*]; done) | (simp [*]; rfl)) (by first | assumption | (simp; done) | (simp; omega) | omega)) ?_)) | (refine OW.rot3 ?_; (first | refine OW.sv (SV.storeW rfl (by first | rfl | assumption) rfl (by first | exact i64s_one _ | assumption) rfl (by first | assumption | exact (i64s_length _).trans (List.length_replicate ..) | exact (i64s_length _).trans (by assumption) | rfl | (simp; done) | (simp [*]; done) | (simp [*]; rfl)) (by first | assumption | exact (i64s_length _).trans (List.length_replicate ..) | exact (i64s_length _).trans (by assumption) | rfl | (simp; done) | (simp [*]; done) | (simp [*]; rfl))) ?_ | refine OW.sv (SV.storeAs rfl (by first | rfl | assumption) rfl (by first | exact i64s_one _ | assumption) rfl (by first | assumption | exact (i64s_length _).trans (List.length_replicate ..) | exact (i64s_length _).trans (by assumption) | rfl | (simp; done) | (simp [*]; done) | (simp [*]; rfl)) (by first | assumption | (simp; done) | (simp; omega) | omega)) ?_)) | (refine OW.rot4 ?_; (first | refine OW.sv (SV.storeW rfl (by first | rfl | assumption) rfl (by first | exact i64s_one _ | assumption) rfl (by first | assumption | exact (i64s_length _).trans (List.length_replicate ..) | exact (i64s_length _).trans (by assumption) | rfl | (simp; done) | (simp [*]; done) | (simp [*]; rfl)) (by first | assumption | exact (i64s_length _).trans (List.length_replicate ..) | exact (i64s_length _).trans (by assumption) | rfl | (simp; done) | (simp [*]; done) | (simp [*]; rfl))) ?_ | refine OW.sv (SV.storeAs rfl (by first | rfl | assumption) rfl (by first | exact i64s_one _ | assumption) rfl (by first | assumption | exact (i64s_length _).trans (List.length_replicate ..) | exact (i64s_length _).trans (by assumption) | rfl | (simp; done) | (simp [*]; done) | (simp [*]; rfl)) (by first | assumption | (simp; done) | (simp; omega) | omega)) ?_)) | (refine OW.rot5 ?_; (first | refine OW.sv (SV.storeW rfl (by first | rfl | assumption) rfl (by first | exact i64s_one _ | assumption) rfl (by first | assumption | exact (i64s_length _).trans (List.length_replicate ..) | exact (i64s_length _).trans (by assumption) | rfl | (simp; done) | (simp [*]; done) | (simp [*]; rfl)) (by first | assumption | exact (i64s_length _).trans (List.length_replicate ..) | exact (i64s_length _).trans (by assumption) | rfl | (simp; done) | (simp [*]; done) | (simp [*]; rfl))) ?_ | refine OW.sv (SV.storeAs rfl (by first | rfl | assumption) rfl (by first | exact i64s_one _ | assumption) rfl (by first | assumption | exact (i64s_length _).trans (List.length_replicate ..) | exact (i64s_length _).trans (by assumption) | rfl | (simp; done) | (simp [*]; done) | (simp [*]; rfl)) (by first | assumption | (simp; done) | (simp; omega) | omega)) ?_)) | (refine OW.rot6 ?_; (first | refine OW.sv (SV.storeW rfl (by first | rfl | assumption) rfl (by first | exact i64s_one _ | assumption) rfl (by first | assumption | exact (i64s_length _).trans (List.length_replicate ..) | exact (i64s_length _).trans (by assumption) | rfl | (simp; done) | (simp [*]; done) | (simp [*]; rfl)) (by first | assumption | exact (i64s_length _).trans (List.length_replicate ..) | exact (i64s_length _).trans (by assumption) | rfl | (simp; done) | (simp [*]; done) | (simp [*]; rfl))) ?_ | refine OW.sv (SV.storeAs rfl (by first | rfl | assumption) rfl (by first | exact i64s_one _ | assumption) rfl (by first | assumption | exact (i64s_length _).trans (List.length_replicate ..) | exact (i64s_length _).trans (by assumption) | rfl | (simp; done) | (simp [*]; done) | (simp [*]; rfl)) (by first | assumption | (simp; done) | (simp; omega) | omega)) ?_)))
  refine OW.nil ?_
  (repeat (first | refine CW.seq ?_ | refine QW.then_n ?_ | refine CW.block ?_ | refine CW.ret ?_ | refine CW.skip ?_ | refine CW.exit ?_ | refine QW.then_x ?_ | refine QW.then_r ?_ | refine QW.block_n ?_ | refine QW.block_xe ?_ | refine QW.block_xn rfl ?_ | refine QW.block_r ?_))
  (repeat (first | refine CW.seq ?_ | refine QW.then_n ?_ | refine CW.block ?_ | refine CW.ret ?_ | refine CW.skip ?_ | refine CW.exit ?_ | refine QW.then_x ?_ | refine QW.then_r ?_ | refine QW.block_n ?_ | refine QW.block_xe ?_ | refine QW.block_xn rfl ?_ | refine QW.block_r ?_))
  refine CW.region ?_
  refine OW.rv (RV.move rfl) rfl ?_
  refine OW.nil ?_
  (repeat (first | refine CW.seq ?_ | refine QW.then_n ?_ | refine CW.block ?_ | refine CW.ret ?_ | refine CW.skip ?_ | refine CW.exit ?_ | refine QW.then_x ?_ | refine QW.then_r ?_ | refine QW.block_n ?_ | refine QW.block_xe ?_ | refine QW.block_xn rfl ?_ | refine QW.block_r ?_))
  refine CW.loop (σ := Nat × List Int) (fun s => s.1 ≤ 5 ∧ s.2.length = 25 ∧ ∀ k, k < 25 → k % 5 < s.1 → s.2.getD k 0 = (goesN k : Int)) (fun s => [(0, ptr (some b0) 0), (1, ptr (some b1) 0), (5, .int .i64 (s.1 : Int))])
    (fun s => (some b1, blk (i64s s.2) 60) :: (some b0, blk (i64s turnsL) 60) :: M) (fun s => 5 - s.1) (0, z25) ⟨by simp, hz, fun k _ h => by omega⟩ ⟨rfl, rfl, rfl, trivial⟩ (fun _ m => m.rot1) ?_
  rintro ⟨x, g⟩ ⟨hx, hg, he⟩
  dsimp only at hx hg he ⊢
  (repeat (first | refine CW.seq ?_ | refine QW.then_n ?_ | refine CW.block ?_ | refine CW.ret ?_ | refine CW.skip ?_ | refine CW.exit ?_ | refine QW.then_x ?_ | refine QW.then_r ?_ | refine QW.block_n ?_ | refine QW.block_xe ?_ | refine QW.block_xn rfl ?_ | refine QW.block_r ?_))
  refine CW.region ?_
  refine OW.rv (RV.lss rfl rfl) rfl ?_
  refine OW.nil ?_
  (repeat (first | refine CW.seq ?_ | refine QW.then_n ?_ | refine CW.block ?_ | refine CW.ret ?_ | refine CW.skip ?_ | refine CW.exit ?_ | refine QW.then_x ?_ | refine QW.then_r ?_ | refine QW.block_n ?_ | refine QW.block_xe ?_ | refine QW.block_xn rfl ?_ | refine QW.block_r ?_))
  (first | refine CW.cond_t rfl ?_ | refine CW.cond_f rfl ?_ | refine CW.cond_p rfl (fun hlt => ?_) (fun hlt => ?_) | refine CW.cond_np rfl (fun hlt => ?_) (fun hlt => ?_) | refine CW.cond rfl (fun hlt => ?_) (fun hlt => ?_))
  · have hx2 : x < 5 := by omega
    (repeat (first | refine CW.seq ?_ | refine QW.then_n ?_ | refine CW.block ?_ | refine CW.ret ?_ | refine CW.skip ?_ | refine CW.exit ?_ | refine QW.then_x ?_ | refine QW.then_r ?_ | refine QW.block_n ?_ | refine QW.block_xe ?_ | refine QW.block_xn rfl ?_ | refine QW.block_r ?_))
    refine CW.region ?_
    refine OW.rv (RV.move rfl) rfl ?_
    refine OW.rv (RV.assign rfl) rfl ?_
    refine OW.nil ?_
    (repeat (first | refine CW.seq ?_ | refine QW.then_n ?_ | refine CW.block ?_ | refine CW.ret ?_ | refine CW.skip ?_ | refine CW.exit ?_ | refine QW.then_x ?_ | refine QW.then_r ?_ | refine QW.block_n ?_ | refine QW.block_xe ?_ | refine QW.block_xn rfl ?_ | refine QW.block_r ?_))
    (repeat (first | refine CW.seq ?_ | refine QW.then_n ?_ | refine CW.block ?_ | refine CW.ret ?_ | refine CW.skip ?_ | refine CW.exit ?_ | refine QW.then_x ?_ | refine QW.then_r ?_ | refine QW.block_n ?_ | refine QW.block_xe ?_ | refine QW.block_xn rfl ?_ | refine QW.block_r ?_))
    refine CW.region ?_
    refine OW.rv (RV.move rfl) rfl ?_
    refine OW.nil ?_
    (repeat (first | refine CW.seq ?_ | refine QW.then_n ?_ | refine CW.block ?_ | refine CW.ret ?_ | refine CW.skip ?_ | refine CW.exit ?_ | refine QW.then_x ?_ | refine QW.then_r ?_ | refine QW.block_n ?_ | refine QW.block_xe ?_ | refine QW.block_xn rfl ?_ | refine QW.block_r ?_))
    refine CW.loop (σ := Nat × List Int) (fun s => s.1 ≤ 5 ∧ s.2.length = 25 ∧ ∀ k, k < 25 → (k % 5 < x ∨ (k % 5 = x ∧ k / 5 < s.1)) → s.2.getD k 0 = (goesN k : Int)) (fun s => [(0, ptr (some b0) 0), (1, ptr (some b1) 0), (2, .int .i64 (x : Int)), (5, .int .i64 (x : Int)), (8, .int .i64 (s.1 : Int))])
      (fun s => (some b1, blk (i64s s.2) 60) :: (some b0, blk (i64s turnsL) 60) :: M) (fun s => 5 - s.1) (0, g) ⟨by simp, hg, fun k h1 h2 => he k h1 (by omega)⟩ ⟨rfl, rfl, rfl, rfl, rfl, trivial⟩ (fun _ m => m) ?_
    clear he hg g
    rintro ⟨y, g⟩ ⟨hy, hg, he⟩
    dsimp only at hy hg he ⊢
    (repeat (first | refine CW.seq ?_ | refine QW.then_n ?_ | refine CW.block ?_ | refine CW.ret ?_ | refine CW.skip ?_ | refine CW.exit ?_ | refine QW.then_x ?_ | refine QW.then_r ?_ | refine QW.block_n ?_ | refine QW.block_xe ?_ | refine QW.block_xn rfl ?_ | refine QW.block_r ?_))
    refine CW.region ?_
    refine OW.rv (RV.lss rfl rfl) rfl ?_
    refine OW.nil ?_
    (repeat (first | refine CW.seq ?_ | refine QW.then_n ?_ | refine CW.block ?_ | refine CW.ret ?_ | refine CW.skip ?_ | refine CW.exit ?_ | refine QW.then_x ?_ | refine QW.then_r ?_ | refine QW.block_n ?_ | refine QW.block_xe ?_ | refine QW.block_xn rfl ?_ | refine QW.block_r ?_))
    (first | refine CW.cond_t rfl ?_ | refine CW.cond_f rfl ?_ | refine CW.cond_p rfl (fun hylt => ?_) (fun hylt => ?_) | refine CW.cond_np rfl (fun hylt => ?_) (fun hylt => ?_) | refine CW.cond rfl (fun hylt => ?_) (fun hylt => ?_))
    · have hy2 : y < 5 := by omega
      have et : 0 + ((x : Int) + 5 * (y : Int)).toNat = x + 5 * y := by omega
      have hl2 : 0 + ((x : Int) + 5 * (y : Int)).toNat < (i64s g).length := by rw [et, i64s_length]; omega
      (repeat (first | refine CW.seq ?_ | refine QW.then_n ?_ | refine CW.block ?_ | refine CW.ret ?_ | refine CW.skip ?_ | refine CW.exit ?_ | refine QW.then_x ?_ | refine QW.then_r ?_ | refine QW.block_n ?_ | refine QW.block_xe ?_ | refine QW.block_xn rfl ?_ | refine QW.block_r ?_))
      refine CW.region ?_
      refine OW.rv (RV.move rfl) rfl ?_
      refine OW.rv (RV.assign rfl) rfl ?_
      refine OW.nil ?_
      (repeat (first | refine CW.seq ?_ | refine QW.then_n ?_ | refine CW.block ?_ | refine CW.ret ?_ | refine CW.skip ?_ | refine CW.exit ?_ | refine QW.then_x ?_ | refine QW.then_r ?_ | refine QW.block_n ?_ | refine QW.block_xe ?_ | refine QW.block_xn rfl ?_ | refine QW.block_r ?_))
      (repeat (first | refine CW.seq ?_ | refine QW.then_n ?_ | refine CW.block ?_ | refine CW.ret ?_ | refine CW.skip ?_ | refine CW.exit ?_ | refine QW.then_x ?_ | refine QW.then_r ?_ | refine QW.block_n ?_ | refine QW.block_xe ?_ | refine QW.block_xn rfl ?_ | refine QW.block_r ?_))
      refine CW.region ?_
      refine OW.rv (RV.move rfl) rfl ?_
      refine OW.rv (RV.move rfl) rfl ?_
      refine OW.rv (RV.mul rfl rfl (by omega)) rfl ?_
      refine OW.rv (RV.add rfl rfl (by omega)) rfl ?_
      refine OW.rv (RV.move rfl) rfl ?_
      refine OW.rv (RV.move rfl) rfl ?_
      refine OW.rv (RV.mul rfl rfl (by omega)) rfl ?_
      refine OW.rv (RV.move rfl) rfl ?_
      refine OW.rv (RV.mul rfl rfl (by omega)) rfl ?_
      refine OW.rv (RV.add rfl rfl (by omega)) rfl ?_
      (first | refine OW.rv (RV.rem rfl rfl (by omega) (by omega)) rfl ?_ | refine OW.rv (RV.trem rfl rfl (by omega)) rfl ?_)
      refine OW.rv (RV.mul rfl rfl (by omega)) rfl ?_
      refine OW.rv (RV.add rfl rfl (by omega)) rfl ?_
      (first | refine OW.rv (RV.idx_a _ rfl rfl rfl rfl rfl (by omega)) rfl ?_ | refine OW.rv (RV.idx_az rfl rfl (by omega) rfl rfl (by omega)) rfl ?_)
      (first | refine OW.sv (SV.store rfl (by first | rfl | assumption) rfl rfl rfl (by first | assumption | (simp; done) | (simp; omega) | omega)) ?_ | (refine OW.rot1 ?_; refine OW.sv (SV.store rfl (by first | rfl | assumption) rfl rfl rfl (by first | assumption | (simp; done) | (simp; omega) | omega)) ?_) | (refine OW.rot2 ?_; refine OW.sv (SV.store rfl (by first | rfl | assumption) rfl rfl rfl (by first | assumption | (simp; done) | (simp; omega) | omega)) ?_) | (refine OW.rot3 ?_; refine OW.sv (SV.store rfl (by first | rfl | assumption) rfl rfl rfl (by first | assumption | (simp; done) | (simp; omega) | omega)) ?_) | (refine OW.rot4 ?_; refine OW.sv (SV.store rfl (by first | rfl | assumption) rfl rfl rfl (by first | assumption | (simp; done) | (simp; omega) | omega)) ?_))
      refine OW.nil ?_
      (repeat (first | refine CW.seq ?_ | refine QW.then_n ?_ | refine CW.block ?_ | refine CW.ret ?_ | refine CW.skip ?_ | refine CW.exit ?_ | refine QW.then_x ?_ | refine QW.then_r ?_ | refine QW.block_n ?_ | refine QW.block_xe ?_ | refine QW.block_xn rfl ?_ | refine QW.block_r ?_))
      (repeat (first | refine CW.seq ?_ | refine QW.then_n ?_ | refine CW.block ?_ | refine CW.ret ?_ | refine CW.skip ?_ | refine CW.exit ?_ | refine QW.then_x ?_ | refine QW.then_r ?_ | refine QW.block_n ?_ | refine QW.block_xe ?_ | refine QW.block_xn rfl ?_ | refine QW.block_r ?_))
      refine CW.region ?_
      refine OW.rv (RV.add rfl rfl (by omega)) rfl ?_
      refine OW.rv (RV.move rfl) rfl ?_
      refine OW.nil ?_
      (repeat (first | refine CW.seq ?_ | refine QW.then_n ?_ | refine CW.block ?_ | refine CW.ret ?_ | refine CW.skip ?_ | refine CW.exit ?_ | refine QW.then_x ?_ | refine QW.then_r ?_ | refine QW.block_n ?_ | refine QW.block_xe ?_ | refine QW.block_xn rfl ?_ | refine QW.block_r ?_))
      refine QW.again (y + 1, g.set (x + 5 * y) ((y : Int) + 5 * ((2 * (x : Int) + 3 * (y : Int)) % 5))) ⟨by show y + 1 ≤ 5; omega, by simp [hg], fun k h1 h2 => ?_⟩ (by show 5 - (y + 1) < 5 - y; omega) ⟨rfl, rfl, rfl, rfl, rfl, trivial⟩ (fun _ m => ?_)
      · have h2' : k % 5 < x ∨ (k % 5 = x ∧ k / 5 < y + 1) := h2
        show (g.set (x + 5 * y) ((y : Int) + 5 * ((2 * (x : Int) + 3 * (y : Int)) % 5))).getD k 0 = _
        rw [getD_set_int1 _ _ _ _ (by omega)]
        by_cases hk : k = x + 5 * y
        · rw [if_pos hk]; subst hk
          unfold goesN
          have e1 : (x + 5 * y) / 5 = y := by omega
          have e2 : (x + 5 * y) % 5 = x := by omega
          rw [e1, e2]; omega
        · rw [if_neg hk]; exact he k h1 (by omega)
      · first | rw [et, i64s_set1] at m | rw [Nat.zero_add, i64s_set1] at m
        exact m
    · (repeat (first | refine CW.seq ?_ | refine QW.then_n ?_ | refine CW.block ?_ | refine CW.ret ?_ | refine CW.skip ?_ | refine CW.exit ?_ | refine QW.then_x ?_ | refine QW.then_r ?_ | refine QW.block_n ?_ | refine QW.block_xe ?_ | refine QW.block_xn rfl ?_ | refine QW.block_r ?_))
      refine CW.region ?_
      refine OW.rv (RV.add rfl rfl (by omega)) rfl ?_
      refine OW.rv (RV.move rfl) rfl ?_
      refine OW.nil ?_
      (repeat (first | refine CW.seq ?_ | refine QW.then_n ?_ | refine CW.block ?_ | refine CW.ret ?_ | refine CW.skip ?_ | refine CW.exit ?_ | refine QW.then_x ?_ | refine QW.then_r ?_ | refine QW.block_n ?_ | refine QW.block_xe ?_ | refine QW.block_xn rfl ?_ | refine QW.block_r ?_))
      exact QW.again (x + 1, g) ⟨by show x + 1 ≤ 5; omega, hg, fun k h1 h2 => he k h1 (by have h2' : k % 5 < x + 1 := h2; omega)⟩ (by show 5 - (x + 1) < 5 - x; omega) ⟨rfl, rfl, rfl, trivial⟩ (fun _ m => m)
  · have hx2 : x = 5 := by omega
    subst hx2
    have eg : g = goesL := by
      apply List.ext_getElem (by rw [hg]; rfl)
      intro i h1 h2
      have := he i (by omega) (by omega)
      simp only [List.getD, List.getElem?_eq_getElem h1, Option.getD_some] at this
      rw [this]; simp [goesL]
    rw [eg]
    have hgl : goesL.length = 25 := rfl
    (repeat (first | refine CW.seq ?_ | refine QW.then_n ?_ | refine CW.block ?_ | refine CW.ret ?_ | refine CW.skip ?_ | refine CW.exit ?_ | refine QW.then_x ?_ | refine QW.then_r ?_ | refine QW.block_n ?_ | refine QW.block_xe ?_ | refine QW.block_xn rfl ?_ | refine QW.block_r ?_))
    refine CW.drawsU 3 mixed (by kernel_rfl) rfl ?_
    refine UW.rv 0 rfl (by kernel_rfl) rfl (RV.loadW rfl (List.Mem.tail _ (List.Mem.head _)) rfl rfl rfl rfl ((i64s_length _).trans hl)) rfl ?_
    refine UW.rv 1 rfl (by kernel_rfl) rfl (RV.loadW rfl (List.Mem.head _) rfl rfl rfl rfl ((i64s_length _).trans hgl)) rfl ?_
    refine UW.same 2 rfl (by kernel_rfl) (List.Mem.tail _ (List.Mem.head _)) (fun M' => SV.storeW rfl rfl rfl (i64s_one _) rfl ((i64s_length _).trans hl) ((i64s_length _).trans hl)) ?_
    refine UW.nil (by kernel_rfl) ?_
    refine OW.sv (SV.storeW rfl rfl rfl (i64s_one _) rfl ((i64s_length _).trans hgl) ((i64s_length _).trans hgl)) ?_
    refine OW.nil ?_
    (repeat (first | refine CW.seq ?_ | refine QW.then_n ?_ | refine CW.block ?_ | refine CW.ret ?_ | refine CW.skip ?_ | refine CW.exit ?_ | refine QW.then_x ?_ | refine QW.then_r ?_ | refine QW.block_n ?_ | refine QW.block_xe ?_ | refine QW.block_xn rfl ?_ | refine QW.block_r ?_))
    exact QW.retCC rfl () trivial rfl rfl (List.Mem.tail _ (List.Mem.head _)) (List.Mem.head _) rfl rfl rfl rfl rfl ((i64s_length _).trans hl) rfl rfl rfl ((i64s_length _).trans hgl) rfl (fun _ m => m.tail.tail)
end Go.Fw.Tryd
