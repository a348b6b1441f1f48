/- Texts, numbers and lists that the program makes are the same as those of the reference; nothing of what was given changes. -/
import Derived.Test.YtgdohhccpghofaaRows
import Derived.WalkKit
import Derived.ProofKit
import Derived.OpenShut
import Derived.ShutString
import Derived.ChangeOld
import Derived.ChangeMaps5
import Derived.Below
import Derived.Deep.DeepHandedRow
import Derived.Lib.LaidTab
import Derived.Test.YtgdohhccpghofaaRlpMakesW2
import Derived.Test.YtgdohhccpghofaaRlpI2
import Derived.Test.YtgdohhccpghofaaOpnIt
namespace Go.Proofs.Ytgdohhccpghofaa.rlpMakes
open Go.ChangeShapes Go.WideShapes Go.ChangeAt Go.RowKit Go.Fw Go.Fw.Try
set_option linter.unusedVariables false
set_option maxRecDepth 100000

theorem own : ownKnob Try.prog.godebug = none := by kernel_rfl
theorem laidOut : laidOutB Try.prog = true := by kernel_rfl

theorem walk {H : Type} {enc : TypeId × Value → H} (W : World) (base : Nat) (v0 : Value) (d0 : DataW H) (p0 : List MemPlace) (val0 : Value.okWide Try.prog W .any base 22 v0) (h0 : DataW.Trod enc Try.prog W 0 (fun _ => true) true 22 v0 d0 p0) (z0 : Fits Try.prog 22 d0) (v1 : Value) (d1 : DataW H) (p1 : List MemPlace) (val1 : Value.okWide Try.prog W .any base 25 v1) (h1 : DataW.Trod enc Try.prog W 0 (fun _ => true) true 25 v1 d1 p1) (z1 : Fits Try.prog 25 d1) (v2 : Value) (d2 : DataW H) (p2 : List MemPlace) (val2 : Value.okWide Try.prog W .any base 26 v2) (h2 : DataW.Trod enc Try.prog W 0 (fun _ => true) true 26 v2 d2 p2) (z2 : Fits Try.prog 26 d2) :
    Calls Try.prog 3 #[v0, v1, v2] W fun e W' => e = .returned (.bool true) ∧ Below W.heap.size W W' := by
  have TI : ItTypes Try.prog 29 26 22 5 4 := { fs := _, f0 := _, f1 := _, f2 := _, hI := Try.underlying29, h0 := rfl, h1 := rfl, h2 := rfl, o0 := rfl, o1 := rfl, o2 := rfl, y0 := rfl, y1 := rfl, y2 := rfl, uL := Try.underlying4, uB := Try.underlying22, u8 := Try.underlying5, uS := Try.underlying26, cL := by kernel_rfl, cB := by kernel_rfl, cS := by kernel_rfl, c8 := by kernel_rfl, cI := by kernel_rfl, b8 := by kernel_rfl, bI := by kernel_rfl }
  obtain ⟨A0, cap0, xs0, el0, sp0, rfl, le0, none0, rd0, els0, ell0, elc0, reach0⟩ := arg_u8s Try.underlying22 Try.underlying5 (by kernel_rfl) (by kernel_rfl) val0 h0 z0
  obtain ⟨xs1, rfl, len1⟩ := arg_arr64 Try.underlying25 Try.underlying23 (by kernel_rfl) (by kernel_rfl) val1 h1
  obtain ⟨A2, cap2, cells2, xs2, rfl, vw2, rp2, len2⟩ := arg_its TI val2 h2 z2
  obtain ⟨v1, rfl⟩ : ∃ v : Vector (BitVec 64) 4, v.toList = xs1 := ⟨⟨xs1.toArray, by simpa using len1⟩, by simp⟩
  exact DoesG.law (waybilllaw07_RlpMakes_does W _ [] (fun _ m => m) A0 cap0 xs0 v1 A2 cap2 cells2 xs2 true (View.of8 rd0 le0 (by omega)) vw2 rp2 (makes_law xs0 v1 xs2 (by omega) (ItsRd.lens _ _ rp2) (by omega))) (fun v G h => h)

theorem contract (H : Type) (enc : TypeId × Value → H) (W : World) (base : Nat) (args : Array Value) (ds gs : List (DataW H)) (before : List MemPlace)
    (hval0 : ∀ (j : Nat) t v, Try.f3.params[j]? = some t → args[j]? = some v → Value.okWide Try.prog W .any base t v)
    (hW : DataW.Whole enc Try.prog Try.f3.params.toList Rows.rlpMakesSpec.vars false W args.toList ds gs before)
    (hz : (DataW.weightsEach Try.prog (Try.f3.params.toList ++ (OpenSpec.ofChange Rows.rlpMakesSpec).bare.plain.varTypes Try.prog) (ds ++ gs)).all (· ≤ reachBytes) = true) :
    Calls Try.prog 3 args W fun e W' => ∃ v, e = .returned v ∧ Rows.rlpMakesSpec.post enc Try.prog Try.f3 false true false false W args v W' := by
  have hval : ∀ (j : Nat) t v, Try.f3.params[j]? = some t → args[j]? = some v → Value.okWide Try.prog W .any base t v := hval0
  have hW' := hW
  obtain ⟨p, q, hA0, hV, rfl, hfz, hnd⟩ := hW
  have hA : DataW.TrodAll enc Try.prog W 0 (fun _ => true) true Try.f3.params.toList args.toList ds p := hA0
  rw [Try.params3] at hA hval hz
  obtain ⟨v0, vs0, d0, ds0, p0, q0, hargs, rfl, rfl, h0, r0⟩ := trodAll_cons hA
  obtain ⟨v1, vs1, d1, ds1, p1, q1, rfl, rfl, rfl, h1, r1⟩ := trodAll_cons r0
  obtain ⟨v2, vs2, d2, ds2, p2, q2, rfl, rfl, rfl, h2, r2⟩ := trodAll_cons r1
  obtain ⟨rfl, rfl, rfl⟩ := trodAll_nil r2
  obtain rfl : args = #[v0, v1, v2] := by cases args; simp_all
  obtain ⟨rfl, rfl⟩ := trodVars_none hV
  have k0 := h0
  have lt0 : ∀ x ∈ p0, x.block < W.heap.size := by obtain ⟨m, hm⟩ := k0; exact DataW.trod_lt m _ _ _ hm
  have k1 := h1
  have lt1 : ∀ x ∈ p1, x.block < W.heap.size := by obtain ⟨m, hm⟩ := k1; exact DataW.trod_lt m _ _ _ hm
  have k2 := h2
  have lt2 : ∀ x ∈ p2, x.block < W.heap.size := by obtain ⟨m, hm⟩ := k2; exact DataW.trod_lt m _ _ _ hm
  clear hA0 hval0
  refine (walk (H := H) (enc := enc) W base v0 d0 p0 (hval 0 22 v0 rfl rfl) h0 (Fits.of_each hz (j := 0) rfl rfl) v1 d1 p1 (hval 1 25 v1 rfl rfl) h1 (Fits.of_each hz (j := 1) rfl rfl) v2 d2 p2 (hval 2 26 v2 rfl rfl) h2 (Fits.of_each hz (j := 2) rfl rfl)).mono fun e W' ⟨he, bel⟩ => ?_
  subst he
  exact ⟨_, rfl, _, _, _, [], _, [], hW', trodAll_mk1 (shut_bool Try.underlying4 _), (trodAll_cons_mk (Below.trod laidOut (by kernel_rfl) (of_decide_eq_true (by kernel_rfl)) k0 bel lt0) (trodAll_cons_mk (Below.trod laidOut (by kernel_rfl) (of_decide_eq_true (by kernel_rfl)) k1 bel lt1) (trodAll_cons_mk (Below.trod laidOut (by kernel_rfl) (of_decide_eq_true (by kernel_rfl)) k2 bel lt2) trodAll_mk0))), rfl, bel.frame _, fun h => by cases h⟩

noncomputable def w0 (os : Os) : World := World.holding Try.prog os ⟨#[], #[], []⟩
theorem laid_met (os : Os) : laidMet Try.prog Rows.rlpMakesRow.laid ((w0 os).forCall (fun _ _ => 0) ⟨#[], #[.slice none 0 0, .agg ((List.replicate 4 (.int .u64 0) : List (Value))).toArray, .slice none 0 0], []⟩).memory :=
  laidMet_of_run' 8 (by kernel_rfl) (by kernel_rfl)
theorem reads0 (os : Os) {H : Type} (enc : TypeId × Value → H) : ∃ places, DataW.whole enc Try.prog ((w0 os).forCall (fun _ _ => 0) ⟨#[], #[.slice none 0 0, .agg ((List.replicate 4 (.int .u64 0) : List (Value))).toArray, .slice none 0 0], []⟩).memory Try.f3.params.toList Rows.rlpMakesSpec.vars false (Array.toList #[.slice none 0 0, .agg ((List.replicate 4 (.int .u64 0) : List (Value))).toArray, .slice none 0 0]) 8 = some ([.nil, .agg ((List.replicate 4 (.lit (.int .u64 0)) : List (DataW H))), .nil], [], places) :=
  ⟨[], by kernel_rfl⟩

theorem lifted (os : Os) (started : os.Started) (H : Type) (enc : TypeId × Value → H) (F : Stop.Interp) :
    ReturnsInHanded {} Try.checked os 3 .any ((OpenSpec.ofChange Rows.rlpMakesSpec).preRow enc Try.prog Try.f3 Rows.rlpMakesRow.domain false Rows.rlpMakesRow.laid) (((OpenSpec.ofChange Rows.rlpMakesSpec).at F).post enc Try.prog Try.f3 false true false false) := by
  obtain ⟨places, hx⟩ := reads0 os enc
  refine returnsInHanded_of_row (C := Try.checked) (s := (OpenSpec.ofChange Rows.rlpMakesSpec)) own started (by kernel_rfl) Try.func3
    (witness_row_at (enc := enc) (C := Try.checked) false (w0 os) #[.slice none 0 0, .agg ((List.replicate 4 (.int .u64 0) : List (Value))).toArray, .slice none 0 0] rfl (by kernel_rfl) (by kernel_rfl) (by kernel_rfl)
      (OpenSpec.preRow_of_cond 8 hx (by kernel_rfl) (fun k hk => by cases hk) (by kernel_rfl) (laid_met os))) ?_
  intro W base args ds gs before hval hW _ hcond hz hL _ _
  exact contract H enc W base args ds gs before hval hW hz

theorem proved : Rows.RlpMakesSaid :=
  OpenClaim.holds_of_cond 3 Try.f3 rfl rfl rfl rfl rfl rfl rfl ⟨rfl, rfl, rfl, rfl, rfl⟩ rfl rfl rfl rfl rfl (by kernel_rfl) Try.func3 (by kernel_rfl)
    (of_decide_eq_true (by kernel_rfl)) (by unfold Func.isWrapper; first | (rw [if_pos (by decide +kernel)]; kernel_rfl) | (rw [if_neg (by decide +kernel)]; exact ⟨rfl, rfl⟩))
    (fun os started H enc _ F => by rw [OpenClaim.pre_eq_preRow]; exact lifted os started H enc F)
#print axioms proved
end Go.Proofs.Ytgdohhccpghofaa.rlpMakes
