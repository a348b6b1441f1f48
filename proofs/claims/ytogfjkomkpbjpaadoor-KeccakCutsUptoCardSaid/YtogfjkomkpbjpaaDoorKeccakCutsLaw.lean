/- However a text is cut into parts, Sum, Sha3 and sponges tell one and the same digest of it. -/
import Derived.Test.YtogfjkomkpbjpaaDoorRows
import Derived.Test.YtogfjkomkpbjpaaDoorCards
import Derived.Test.YtogfjkomkpbjpaaDoorTie
import Derived.WalkKit
import Derived.ProofKit
import Derived.OpenShut
import Derived.ShutString
import Derived.ChangeOld
import Derived.ChangeMaps5
import Derived.Below
import Derived.Deep.DeepHandedRow
import Derived.Lib.LaidTab
import Derived.Test.YtogfjkomkpbjpaaDoorKeccakCutsW1
import Derived.Test.YtogfjkomkpbjpaaDoorOpnM
import Derived.Test.YtogfjkomkpbjpaaDoorKecC1
namespace Go.Proofs.YtogfjkomkpbjpaaDoor.keccakCuts
open Go.ChangeShapes Go.WideShapes Go.ChangeAt Go.RowKit Go.Fw Go.Fw.Tryd
set_option linter.unusedVariables false
set_option maxRecDepth 100000

theorem own : ownKnob Tryd.prog.godebug = none := by kernel_rfl
theorem laidOut : laidOutB Tryd.prog = true := by kernel_rfl

theorem walk {H : Type} {enc : TypeId × Value → H} (W : World) (base : Nat) (v0 : Value) (d0 : DataW H) (p0 : List MemPlace) (val0 : Value.okWide Tryd.prog W .any base 33 v0) (h0 : DataW.Trod enc Tryd.prog W 0 (fun _ => true) true 33 v0 d0 p0) (z0 : Fits Tryd.prog 33 d0) (v1 : Value) (d1 : DataW H) (p1 : List MemPlace) (val1 : Value.okWide Tryd.prog W .any base 35 v1) (h1 : DataW.Trod enc Tryd.prog W 0 (fun _ => true) true 35 v1 d1 p1) (z1 : Fits Tryd.prog 35 d1) (bulk : Rows.uptoBulkAll [d0, d1] ≤ 1048576) (hL : laidMetH Tryd.prog Rows.keccakCutsUptoRow.laid W) :
    Calls Tryd.prog 5 #[v0, v1] W fun e W' => e = .returned (.bool true) ∧ Below W.heap.size W W' := by
  obtain ⟨A0, cap0, xs0, el0, sp0, rfl, le0, none0, rd0, els0, ell0, elc0, reach0⟩ := arg_u8s Tryd.underlying33 Tryd.underlying5 (by kernel_rfl) (by kernel_rfl) val0 h0 z0
  obtain ⟨A1, cap1, xs1, el1, sp1, rfl, le1, none1, rd1, els1, ell1, elc1, reach1, wf1⟩ := arg_i64s Tryd.underlying35 Tryd.underlying3 (by kernel_rfl) (by kernel_rfl) val1 h1 z1
  have hT : ∀ i, i < 2 → W.cell? ⟨1, i, none⟩ = some (.int .u8 (([1, 6] : List Int).getD i 0)) := fun i hi => laid_tab (name := "waybill/keccak.first") (zs := [1, 6]) hL (by kernel_rfl) (by kernel_rfl) (by kernel_rfl) (by kernel_rfl) Tryd.underlying74 Tryd.underlying5 (by kernel_rfl) (by kernel_rfl) i hi
  have hg : View (fun w => Mem W w []) (some ⟨1, 0, none⟩) 2 2 1 (u8s firstL) := View.of_rd ⟨fun _ => rfl, fun j u h => by
    have hj : j < 2 := (List.getElem?_eq_some_iff.1 h).1
    show W.cell? ((⟨1, 0, none⟩ : Addr).add j) = some u
    rw [Addr.add_none, Nat.zero_add, hT j hj]
    rcases (by omega : j = 0 ∨ j = 1) with rfl | rfl
    · exact h
    · exact h⟩ rfl (by omega) (by omega)
  have hp : ∀ d : DataW H, 1 ≤ Rows.uptoBulk d := fun d => by cases d with
    | lit l => cases l <;> simp [Rows.uptoBulk]
    | _ => simp [Rows.uptoBulk]
  have hb1 := bulk_len Rows.uptoBulk Rows.uptoBulkAll (by simp [Rows.uptoBulkAll]) (fun d r => by simp [Rows.uptoBulkAll]) (fun el sp => by simp [Rows.uptoBulk]) hp els1
  have hb2 : Rows.uptoBulkAll [d0, d1] = Rows.uptoBulk d0 + Rows.uptoBulk d1 := by simp [Rows.uptoBulkAll]
  exact DoesG.law (waybilllaw02_KeccakCuts_does W _ [] (fun _ m => m) A0 cap0 xs0 A1 cap1 xs1 true (View.of8 rd0 le0 (by omega)) (View.of_rd rd1 (by rw [i64s_length]; omega) le1 (by omega)) hg (cuts_law xs0 (by omega) xs1 (by omega))) (fun v G h => h)

theorem contract (H : Type) (enc : TypeId × Value → H) (W : World) (base : Nat) (args : Array Value) (ds gs : List (DataW H)) (before : List MemPlace)
    (hval0 : ∀ (j : Nat) t v, Tryd.f5.params[j]? = some t → args[j]? = some v → Value.okWide Tryd.prog W .any base t v)
    (hW : DataW.Whole enc Tryd.prog Tryd.f5.params.toList Rows.keccakCutsSpec.vars false W args.toList ds gs before)
    (hz : (DataW.weightsEach Tryd.prog (Tryd.f5.params.toList ++ (Rows.OpenSpec.upto Rows.keccakCutsSpec).bare.plain.varTypes Tryd.prog) (ds ++ gs)).all (· ≤ reachBytes) = true) (hk : Rows.uptoSmall H (ds ++ gs) = true) (hL : laidMetH Tryd.prog Rows.keccakCutsUptoRow.laid W) :
    Calls Tryd.prog 5 args W fun e W' => ∃ v, e = .returned v ∧ Rows.keccakCutsSpec.post enc Tryd.prog Tryd.f5 false true false false W args v W' := by
  have hval : ∀ (j : Nat) t v, Tryd.f5.params[j]? = some t → args[j]? = some v → Value.okWide Tryd.prog W .any base t v := hval0
  have hW' := hW
  obtain ⟨p, q, hA0, hV, rfl, hfz, hnd⟩ := hW
  have hA : DataW.TrodAll enc Tryd.prog W 0 (fun _ => true) true Tryd.f5.params.toList args.toList ds p := hA0
  rw [Tryd.params5] at hA hval hz
  obtain ⟨v0, vs0, d0, ds0, p0, q0, hargs, rfl, rfl, h0, r0⟩ := trodAll_cons hA
  obtain ⟨v1, vs1, d1, ds1, p1, q1, rfl, rfl, rfl, h1, r1⟩ := trodAll_cons r0
  obtain ⟨rfl, rfl, rfl⟩ := trodAll_nil r1
  obtain rfl : args = #[v0, v1] := by cases args; simp_all
  obtain ⟨rfl, rfl⟩ := trodVars_none hV
  have k0 := h0
  have lt0 : ∀ x ∈ p0, x.block < W.heap.size := by obtain ⟨m, hm⟩ := k0; exact DataW.trod_lt m _ _ _ hm
  have k1 := h1
  have lt1 : ∀ x ∈ p1, x.block < W.heap.size := by obtain ⟨m, hm⟩ := k1; exact DataW.trod_lt m _ _ _ hm
  clear hA0 hval0
  have bulk : Rows.uptoBulkAll [d0, d1] ≤ 1048576 := by
    have h := of_decide_eq_true hk
    rwa [List.append_nil] at h
  refine (walk (H := H) (enc := enc) W base v0 d0 p0 (hval 0 33 v0 rfl rfl) h0 (Fits.of_each hz (j := 0) rfl rfl) v1 d1 p1 (hval 1 35 v1 rfl rfl) h1 (Fits.of_each hz (j := 1) rfl rfl) bulk hL).mono fun e W' ⟨he, bel⟩ => ?_
  subst he
  exact ⟨_, rfl, _, _, _, [], _, [], hW', trodAll_mk1 (shut_bool Tryd.underlying4 _), (trodAll_cons_mk (Below.trod laidOut (by kernel_rfl) (of_decide_eq_true (by kernel_rfl)) k0 bel lt0) (trodAll_cons_mk (Below.trod laidOut (by kernel_rfl) (of_decide_eq_true (by kernel_rfl)) k1 bel lt1) trodAll_mk0)), rfl, bel.frame _, fun h => by cases h⟩

noncomputable def w0 (os : Os) : World := { World.holding Tryd.prog os ⟨#[], #[], []⟩ with heap := ((World.holding Tryd.prog os ⟨#[], #[], []⟩).heap.modify (Tryd.prog.globalNamed "waybill/keccak.first" |>.getD 0) fun | .cells _ t fr => .cells #[.int .u8 1, .int .u8 6] t fr | o => o) }
theorem laid_met (os : Os) : laidMet Tryd.prog Rows.keccakCutsUptoRow.laid ((w0 os).forCall (fun _ _ => 0) ⟨#[], #[.slice none 0 0, .slice none 0 0], []⟩).memory :=
  laidMet_of_run' 8 (by kernel_rfl) (by kernel_rfl)
theorem reads0 (os : Os) {H : Type} (enc : TypeId × Value → H) : ∃ places, DataW.whole enc Tryd.prog ((w0 os).forCall (fun _ _ => 0) ⟨#[], #[.slice none 0 0, .slice none 0 0], []⟩).memory Tryd.f5.params.toList Rows.keccakCutsSpec.vars false (Array.toList #[.slice none 0 0, .slice none 0 0]) 8 = some ([.nil, .nil], [], places) :=
  ⟨[], by kernel_rfl⟩

theorem lifted (os : Os) (started : os.Started) (H : Type) (enc : TypeId × Value → H) (F : Stop.Interp) :
    ReturnsInHanded {} Tryd.checked os 5 .any ((Rows.OpenSpec.upto Rows.keccakCutsSpec).preRow enc Tryd.prog Tryd.f5 Rows.keccakCutsUptoRow.domain false Rows.keccakCutsUptoRow.laid) (((Rows.OpenSpec.upto Rows.keccakCutsSpec).at F).post enc Tryd.prog Tryd.f5 false true false false) := by
  obtain ⟨places, hx⟩ := reads0 os enc
  refine returnsInHanded_of_row (C := Tryd.checked) (s := (Rows.OpenSpec.upto Rows.keccakCutsSpec)) own started (by kernel_rfl) Tryd.func5
    (witness_row_at (enc := enc) (C := Tryd.checked) false (w0 os) #[.slice none 0 0, .slice none 0 0] rfl (by kernel_rfl) (by kernel_rfl) (by kernel_rfl)
      (OpenSpec.preRow_of_cond 8 hx (by kernel_rfl) (fun k hk => by cases hk; kernel_rfl) (by kernel_rfl) (laid_met os))) ?_
  intro W base args ds gs before hval hW _ hcond hz hL _ _
  exact contract H enc W base args ds gs before hval hW hz (hcond _ rfl) hL

theorem said : Rows.KeccakCutsUptoSaid :=
  OpenClaim.holds_of_cond 5 Tryd.f5 rfl rfl rfl rfl rfl rfl rfl ⟨rfl, rfl, rfl, rfl, rfl⟩ rfl rfl rfl rfl rfl (by kernel_rfl) Tryd.func5 (by kernel_rfl)
    (of_decide_eq_true (by kernel_rfl)) (by unfold Func.isWrapper; first | (rw [if_pos (by decide +kernel)]; kernel_rfl) | (rw [if_neg (by decide +kernel)]; exact ⟨rfl, rfl⟩))
    (fun os started H enc _ F => by rw [OpenClaim.pre_eq_preRow]; exact lifted os started H enc F)

theorem plain (f : FuncId) (fn : Func) (hf : Tryd.pinned.checked.prog.funcNamed "waybill/waybilllaw02.KeccakCuts" = some f) (hfn : Tryd.pinned.checked.prog.funcs[f]? = some fn) :
    false = Tryd.pinned.checked.prog.looks [] ∧ ∀ (j : Nat) t, fn.params[j]? = some t → Tryd.pinned.checked.prog.wantsStandIn t = false := by
  obtain rfl : f = 5 := Option.some.inj ((show Tryd.prog.funcNamed "waybill/waybilllaw02.KeccakCuts" = some 5 by kernel_rfl).symm.trans hf) |>.symm
  obtain rfl : fn = Tryd.f5 := (Option.some.inj (Tryd.func5.symm.trans hfn)).symm
  refine ⟨by kernel_rfl, fun j t ht => ?_⟩
  rw [Tryd.params5] at ht
  have hm := Array.mem_of_getElem? ht
  simp only [List.mem_toArray, List.mem_cons, List.not_mem_nil, or_false] at hm
  rcases hm with rfl | rfl
  · exact (show Tryd.prog.wantsStandIn 33 = false by kernel_rfl)
  · exact (show Tryd.prog.wantsStandIn 35 = false by kernel_rfl)
theorem proved : Rows.KeccakCutsUptoCardSaid :=
  Claim7.holds_tied_plain_at .later [] _ _ _ _ said (fun _ h => by cases h) (by kernel_rfl) (fun _ h => by cases h) keccakCutsUpto_row_tie rfl ⟨rfl, rfl⟩ (by kernel_rfl) rfl plain (by kernel_rfl)
#print axioms proved
end Go.Proofs.YtogfjkomkpbjpaaDoor.keccakCuts
