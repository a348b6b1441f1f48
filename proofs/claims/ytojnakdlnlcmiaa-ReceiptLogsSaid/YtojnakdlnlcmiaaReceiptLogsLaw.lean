/- The item of any log is the document's, and any item as a log. -/
import Derived.Test.YtojnakdlnlcmiaaRows
import Derived.WalkKit
import Derived.ProofKit
import Derived.OpenShut
import Derived.ShutString
import Derived.ChangeOld
import Derived.ChangeMaps5
import Derived.Below
import Derived.Deep.DeepHandedRow
import Derived.Lib.LaidTab
import Derived.Test.YtojnakdlnlcmiaaT5
namespace Go.Proofs.Ytojnakdlnlcmiaa.receiptLogs
open Go.ChangeShapes Go.WideShapes Go.ChangeAt Go.RowKit Go.Fw Go.Fw.Try
set_option linter.unusedVariables false
set_option maxRecDepth 100000

theorem own : ownKnob Try.prog.godebug = none := by kernel_rfl
theorem laidOut : laidOutB Try.prog = true := by kernel_rfl

theorem walk {H : Type} {enc : TypeId × Value → H} (W : World) (base : Nat) (v0 : Value) (d0 : DataW H) (p0 : List MemPlace) (val0 : Value.okWide Try.prog W .any base 27 v0) (h0 : DataW.Trod enc Try.prog W 0 (fun _ => true) true 27 v0 d0 p0) (z0 : Fits Try.prog 27 d0) (v1 : Value) (d1 : DataW H) (p1 : List MemPlace) (val1 : Value.okWide Try.prog W .any base 30 v1) (h1 : DataW.Trod enc Try.prog W 0 (fun _ => true) true 30 v1 d1 p1) (z1 : Fits Try.prog 30 d1) :
    Calls Try.prog 3 #[v0, v1] W fun e W' => e = .returned (.bool true) ∧ Below W.heap.size W W' := by
  have TI : ItTypes Try.prog 30 28 25 5 4 := { fs := _, f0 := _, f1 := _, f2 := _, hI := Try.underlying30, h0 := rfl, h1 := rfl, h2 := rfl, o0 := rfl, o1 := rfl, o2 := rfl, y0 := rfl, y1 := rfl, y2 := rfl, uL := Try.underlying4, uB := Try.underlying25, u8 := Try.underlying5, uS := Try.underlying28, cL := by kernel_rfl, cB := by kernel_rfl, cS := by kernel_rfl, c8 := by kernel_rfl, cI := by kernel_rfl, b8 := by kernel_rfl, bI := by kernel_rfl }
  have TL : LogTypes Try.prog 27 23 24 51 25 5 := { fs := _, f0 := _, f1 := _, f2 := _, hL := Try.underlying27, h0 := rfl, h1 := rfl, h2 := rfl, o0 := rfl, o1 := rfl, o2 := rfl, y0 := rfl, y1 := rfl, y2 := rfl, uA := Try.underlying23, uS := Try.underlying24, uH := Try.underlying51, uB := Try.underlying25, u8 := Try.underlying5, cA := by kernel_rfl, cS := by kernel_rfl, cH := by kernel_rfl, cB := by kernel_rfl, c8 := by kernel_rfl, cL := by kernel_rfl, b8 := by kernel_rfl, bH := by kernel_rfl, bL := by kernel_rfl }
  obtain ⟨cs0, x0, rfl, rp0, ld0, mt0, md0⟩ := arg_log TL val0 h0 z0
  obtain ⟨cells1, xs1, rfl, rp1⟩ := arg_it TI val1 h1 z1
  obtain ⟨b, hb, hbw⟩ := beyond_ok xs1 (ItRd.lens _ _ rp1)
  obtain ⟨x, e, p1, p2, p3⟩ := logitem_both x0 mt0 md0
  have hfit : twfit [x0] = true := by
    unfold twfit
    rw [Bool.and_eq_true, List.all_eq_true]
    exact ⟨fun y hy => by obtain rfl := List.mem_singleton.1 hy; exact decide_eq_true (by omega), decide_eq_true (by simp)⟩
  exact DoesG.law (waybilllaw17_ReceiptLogs_does W _ [] (fun _ m => m) cs0 x0 cells1 xs1 rp0 rp1 b hb hbw x e p1 p2 p3 (twin_eq17 hfit) (stillLogs_refl _) still17_eq (fun h => parse_both xs1 (hbw h))) (fun v G h => h)

theorem contract (H : Type) (enc : TypeId × Value → H) (W : World) (base : Nat) (args : Array Value) (ds gs : List (DataW H)) (before : List MemPlace)
    (hval0 : ∀ (j : Nat) t v, Try.f3.params[j]? = some t → args[j]? = some v → Value.okWide Try.prog W .any base t v)
    (hW : DataW.Whole enc Try.prog Try.f3.params.toList Rows.receiptLogsSpec.vars false W args.toList ds gs before)
    (hz : (DataW.weightsEach Try.prog (Try.f3.params.toList ++ (OpenSpec.ofChange Rows.receiptLogsSpec).bare.plain.varTypes Try.prog) (ds ++ gs)).all (· ≤ reachBytes) = true) :
    Calls Try.prog 3 args W fun e W' => ∃ v, e = .returned v ∧ Rows.receiptLogsSpec.post enc Try.prog Try.f3 false true false false W args v W' := by
  have hval : ∀ (j : Nat) t v, Try.f3.params[j]? = some t → args[j]? = some v → Value.okWide Try.prog W .any base t v := hval0
  have hW' := hW
  obtain ⟨p, q, hA0, hV, rfl, hfz, hnd⟩ := hW
  have hA : DataW.TrodAll enc Try.prog W 0 (fun _ => true) true Try.f3.params.toList args.toList ds p := hA0
  rw [Try.params3] at hA hval hz
  obtain ⟨v0, vs0, d0, ds0, p0, q0, hargs, rfl, rfl, h0, r0⟩ := trodAll_cons hA
  obtain ⟨v1, vs1, d1, ds1, p1, q1, rfl, rfl, rfl, h1, r1⟩ := trodAll_cons r0
  obtain ⟨rfl, rfl, rfl⟩ := trodAll_nil r1
  obtain rfl : args = #[v0, v1] := by cases args; simp_all
  obtain ⟨rfl, rfl⟩ := trodVars_none hV
  have k0 := h0
  have lt0 : ∀ x ∈ p0, x.block < W.heap.size := by obtain ⟨m, hm⟩ := k0; exact DataW.trod_lt m _ _ _ hm
  have k1 := h1
  have lt1 : ∀ x ∈ p1, x.block < W.heap.size := by obtain ⟨m, hm⟩ := k1; exact DataW.trod_lt m _ _ _ hm
  clear hA0 hval0
  refine (walk (H := H) (enc := enc) W base v0 d0 p0 (hval 0 27 v0 rfl rfl) h0 (Fits.of_each hz (j := 0) rfl rfl) v1 d1 p1 (hval 1 30 v1 rfl rfl) h1 (Fits.of_each hz (j := 1) rfl rfl)).mono fun e W' ⟨he, bel⟩ => ?_
  subst he
  exact ⟨_, rfl, _, _, _, [], _, [], hW', trodAll_mk1 (shut_bool Try.underlying4 _), (trodAll_cons_mk (Below.trod laidOut (by kernel_rfl) (of_decide_eq_true (by kernel_rfl)) k0 bel lt0) (trodAll_cons_mk (Below.trod laidOut (by kernel_rfl) (of_decide_eq_true (by kernel_rfl)) k1 bel lt1) trodAll_mk0)), rfl, bel.frame _, fun h => by cases h⟩

noncomputable def w0 (os : Os) : World := World.holding Try.prog os ⟨#[], #[], []⟩
theorem laid_met (os : Os) : laidMet Try.prog Rows.receiptLogsRow.laid ((w0 os).forCall (fun _ _ => 0) ⟨#[], #[.agg ((List.replicate 20 (.int .u8 0) : List (Value)) ++ ([.slice none 0 0, .slice none 0 0] : List (Value))).toArray, .agg (([.bool false] : List (Value)) ++ ([.slice none 0 0, .slice none 0 0] : List (Value))).toArray], []⟩).memory :=
  laidMet_of_run' 8 (by kernel_rfl) (by kernel_rfl)
theorem reads0 (os : Os) {H : Type} (enc : TypeId × Value → H) : ∃ places, DataW.whole enc Try.prog ((w0 os).forCall (fun _ _ => 0) ⟨#[], #[.agg ((List.replicate 20 (.int .u8 0) : List (Value)) ++ ([.slice none 0 0, .slice none 0 0] : List (Value))).toArray, .agg (([.bool false] : List (Value)) ++ ([.slice none 0 0, .slice none 0 0] : List (Value))).toArray], []⟩).memory Try.f3.params.toList Rows.receiptLogsSpec.vars false (Array.toList #[.agg ((List.replicate 20 (.int .u8 0) : List (Value)) ++ ([.slice none 0 0, .slice none 0 0] : List (Value))).toArray, .agg (([.bool false] : List (Value)) ++ ([.slice none 0 0, .slice none 0 0] : List (Value))).toArray]) 8 = some ([.agg [.agg ((List.replicate 20 (.lit (.int .u8 0)) : List (DataW H))), .nil, .nil], .agg [.lit (.bool false), .nil, .nil]], [], places) :=
  ⟨[], by kernel_rfl⟩

theorem lifted (os : Os) (started : os.Started) (H : Type) (enc : TypeId × Value → H) (F : Stop.Interp) :
    ReturnsInHanded {} Try.checked os 3 .any ((OpenSpec.ofChange Rows.receiptLogsSpec).preRow enc Try.prog Try.f3 Rows.receiptLogsRow.domain false Rows.receiptLogsRow.laid) (((OpenSpec.ofChange Rows.receiptLogsSpec).at F).post enc Try.prog Try.f3 false true false false) := by
  obtain ⟨places, hx⟩ := reads0 os enc
  refine returnsInHanded_of_row (C := Try.checked) (s := (OpenSpec.ofChange Rows.receiptLogsSpec)) own started (by kernel_rfl) Try.func3
    (witness_row_at (enc := enc) (C := Try.checked) false (w0 os) #[.agg ((List.replicate 20 (.int .u8 0) : List (Value)) ++ ([.slice none 0 0, .slice none 0 0] : List (Value))).toArray, .agg (([.bool false] : List (Value)) ++ ([.slice none 0 0, .slice none 0 0] : List (Value))).toArray] rfl (by kernel_rfl) (by kernel_rfl) (by kernel_rfl)
      (OpenSpec.preRow_of_cond 8 hx (by kernel_rfl) (fun k hk => by cases hk) (by kernel_rfl) (laid_met os))) ?_
  intro W base args ds gs before hval hW _ hcond hz hL _ _
  exact contract H enc W base args ds gs before hval hW hz

theorem proved : Rows.ReceiptLogsSaid :=
  OpenClaim.holds_of_cond 3 Try.f3 rfl rfl rfl rfl rfl rfl rfl ⟨rfl, rfl, rfl, rfl, rfl⟩ rfl rfl rfl rfl rfl (by kernel_rfl) Try.func3 (by kernel_rfl)
    (of_decide_eq_true (by kernel_rfl)) (by unfold Func.isWrapper; first | (rw [if_pos (by decide +kernel)]; kernel_rfl) | (rw [if_neg (by decide +kernel)]; exact ⟨rfl, rfl⟩))
    (fun os started H enc _ F => by rw [OpenClaim.pre_eq_preRow]; exact lifted os started H enc F)
#print axioms proved
end Go.Proofs.Ytojnakdlnlcmiaa.receiptLogs
