/- A well-formed header comes back from its item and from its bytes, and what Decode takes is the bytes of what it answers, whatever the header and the bytes. -/
import Derived.Test.YtdmnfcjekomaiaaDoorRows
import Derived.Test.YtdmnfcjekomaiaaDoorCards
import Derived.Test.YtdmnfcjekomaiaaDoorTie
import Derived.WalkKit
import Derived.ProofKit
import Derived.OpenShut
import Derived.ShutString
import Derived.ChangeOld
import Derived.ChangeMaps5
import Derived.Below
import Derived.Deep.DeepHandedRow
import Derived.Lib.LaidTab
import Derived.Test.YtdmnfcjekomaiaaDoorT8
namespace Go.Proofs.YtdmnfcjekomaiaaDoor.headerBack
open Go.ChangeShapes Go.WideShapes Go.ChangeAt Go.RowKit Go.Fw Go.Fw.Tryd
set_option linter.unusedVariables false
set_option maxRecDepth 100000

theorem own : ownKnob Tryd.prog.godebug = none := by kernel_rfl
theorem laidOut : laidOutB Tryd.prog = true := by kernel_rfl

theorem walk {H : Type} {enc : TypeId × Value → H} (W : World) (base : Nat) (v0 : Value) (d0 : DataW H) (p0 : List MemPlace) (val0 : Value.okWide Tryd.prog W .any base 38 v0) (h0 : DataW.Trod enc Tryd.prog W 0 (fun _ => true) true 38 v0 d0 p0) (z0 : Fits Tryd.prog 38 d0) (v1 : Value) (d1 : DataW H) (p1 : List MemPlace) (val1 : Value.okWide Tryd.prog W .any base 22 v1) (h1 : DataW.Trod enc Tryd.prog W 0 (fun _ => true) true 22 v1 d1 p1) (z1 : Fits Tryd.prog 22 d1) (hL : laidMetH Tryd.prog Rows.headerBackRow.laid W) :
    Calls Tryd.prog 5 #[v0, v1] W fun e W' => e = .returned (.bool true) ∧ Below W.heap.size W W' := by
  have R : HdrTypes Tryd.prog 38 3 28 30 32 36 35 33 22 5 := { fs := _, f0 := _, f1 := _, f2 := _, f3 := _, f4 := _, f5 := _, f6 := _, f7 := _, f8 := _, f9 := _, f10 := _, f11 := _, f12 := _, f13 := _, f14 := _, f15 := _, f16 := _, f17 := _, f18 := _, f19 := _, f20 := _, f21 := _, hR := Tryd.underlying38, h0 := rfl, o0 := rfl, y0 := rfl, h1 := rfl, o1 := rfl, y1 := rfl, h2 := rfl, o2 := rfl, y2 := rfl, h3 := rfl, o3 := rfl, y3 := rfl, h4 := rfl, o4 := rfl, y4 := rfl, h5 := rfl, o5 := rfl, y5 := rfl, h6 := rfl, o6 := rfl, y6 := rfl, h7 := rfl, o7 := rfl, y7 := rfl, h8 := rfl, o8 := rfl, y8 := rfl, h9 := rfl, o9 := rfl, y9 := rfl, h10 := rfl, o10 := rfl, y10 := rfl, h11 := rfl, o11 := rfl, y11 := rfl, h12 := rfl, o12 := rfl, y12 := rfl, h13 := rfl, o13 := rfl, y13 := rfl, h14 := rfl, o14 := rfl, y14 := rfl, h15 := rfl, o15 := rfl, y15 := rfl, h16 := rfl, o16 := rfl, y16 := rfl, h17 := rfl, o17 := rfl, y17 := rfl, h18 := rfl, o18 := rfl, y18 := rfl, h19 := rfl, o19 := rfl, y19 := rfl, h20 := rfl, o20 := rfl, y20 := rfl, h21 := rfl, o21 := rfl, y21 := rfl, uN := Tryd.underlying3, uH := Tryd.underlying28, uA := Tryd.underlying30, uM := Tryd.underlying32, uE := Tryd.underlying36, uQ := Tryd.underlying35, uU := Tryd.underlying33, uS := Tryd.underlying22, u8 := Tryd.underlying5, cN := by kernel_rfl, cH := by kernel_rfl, cA := by kernel_rfl, cM := by kernel_rfl, cE := by kernel_rfl, cQ := by kernel_rfl, cU := by kernel_rfl, cS := by kernel_rfl, c8 := by kernel_rfl, b8 := by kernel_rfl, cR := by kernel_rfl }
  have hT : ∀ i, i < 2 → W.cell? ⟨1, i, none⟩ = some (.int .u8 (([1, 6] : List Int).getD i 0)) := fun i hi => laid_tab (name := "waybill/keccak.first") (zs := [1, 6]) hL (by kernel_rfl) (by kernel_rfl) (by kernel_rfl) (by kernel_rfl) Tryd.underlying177 Tryd.underlying5 (by kernel_rfl) (by kernel_rfl) i hi
  have hg1 : View (fun w => Mem W w []) (some ⟨1, 0, none⟩) 2 2 1 (u8s firstL) := View.of_rd ⟨fun _ => rfl, fun j u h => by
    have hj : j < 2 := (List.getElem?_eq_some_iff.1 h).1
    show W.cell? ((⟨1, 0, none⟩ : Addr).add j) = some u
    rw [Z123, Nat.zero_add, hT j hj]
    rcases (by omega : j = 0 ∨ j = 1) with rfl | rfl
    · exact h
    · exact h⟩ rfl (by omega) (by omega)
  have hF : ∀ i, i < 21 → W.cell? ⟨0, i, none⟩ = some (.int .i64 (fieldsL.getD i 0)) := fun i hi => laid_tab (name := "waybill/header.fields") (zs := fieldsL) hL (by kernel_rfl) (by kernel_rfl) (by kernel_rfl) (by kernel_rfl) Tryd.underlying101 Tryd.underlying3 (by kernel_rfl) (by kernel_rfl) i hi
  have hg0 : View (fun w => Mem W w []) (some ⟨0, 0, none⟩) 21 21 1 (i64s fieldsL) := View.of_rd ⟨fun _ => rfl, fun j u h => by
    have hj : j < 21 := (List.getElem?_eq_some_iff.1 h).1
    show W.cell? ((⟨0, 0, none⟩ : Addr).add j) = some u
    rw [Z123, Nat.zero_add, hF j hj]
    simp only [i64s, List.getElem?_map, Option.map_eq_some_iff] at h
    obtain ⟨x, hx, rfl⟩ := h
    rw [List.getD_eq_getElem?_getD, hx]; rfl⟩ rfl (by omega) (by omega)
  obtain ⟨A1, cap1, xs1, el1, sp1, rfl, le1, none1, rd1, els1, ell1, elc1, reach1⟩ := arg_u8s Tryd.underlying22 Tryd.underlying5 (by kernel_rfl) (by kernel_rfl) val1 h1 z1
  obtain ⟨cs0, x0, rfl, hr0, hx0⟩ := arg_hdr R val0 h0 z0
  exact DoesG.law (waybilllaw19_HeaderBack_does W _ [] (fun _ m => m) cs0 x0 A1 cap1 xs1 true hr0 (View.of8 rd1 le1 (by omega)) hg1 hg0 (back_hdr x0 (by omega) xs1)) (fun v G h => h)

theorem contract (H : Type) (enc : TypeId × Value → H) (W : World) (base : Nat) (args : Array Value) (ds gs : List (DataW H)) (before : List MemPlace)
    (hval0 : ∀ (j : Nat) t v, Tryd.f5.params[j]? = some t → args[j]? = some v → Value.okWide Tryd.prog W .any base t v)
    (hW : DataW.Whole enc Tryd.prog Tryd.f5.params.toList Rows.headerBackSpec.vars false W args.toList ds gs before)
    (hz : (DataW.weightsEach Tryd.prog (Tryd.f5.params.toList ++ (OpenSpec.ofChange Rows.headerBackSpec).bare.plain.varTypes Tryd.prog) (ds ++ gs)).all (· ≤ reachBytes) = true) (hL : laidMetH Tryd.prog Rows.headerBackRow.laid W) :
    Calls Tryd.prog 5 args W fun e W' => ∃ v, e = .returned v ∧ Rows.headerBackSpec.post enc Tryd.prog Tryd.f5 false true false false W args v W' := by
  have hval : ∀ (j : Nat) t v, Tryd.f5.params[j]? = some t → args[j]? = some v → Value.okWide Tryd.prog W .any base t v := hval0
  have hW' := hW
  obtain ⟨p, q, hA0, hV, rfl, hfz, hnd⟩ := hW
  have hA : DataW.TrodAll enc Tryd.prog W 0 (fun _ => true) true Tryd.f5.params.toList args.toList ds p := hA0
  rw [Tryd.params5] at hA hval hz
  obtain ⟨v0, vs0, d0, ds0, p0, q0, hargs, rfl, rfl, h0, r0⟩ := trodAll_cons hA
  obtain ⟨v1, vs1, d1, ds1, p1, q1, rfl, rfl, rfl, h1, r1⟩ := trodAll_cons r0
  obtain ⟨rfl, rfl, rfl⟩ := trodAll_nil r1
  obtain rfl : args = #[v0, v1] := by cases args; simp_all
  obtain ⟨rfl, rfl⟩ := trodVars_none hV
  have k0 := h0
  have lt0 : ∀ x ∈ p0, x.block < W.heap.size := by obtain ⟨m, hm⟩ := k0; exact DataW.trod_lt m _ _ _ hm
  have k1 := h1
  have lt1 : ∀ x ∈ p1, x.block < W.heap.size := by obtain ⟨m, hm⟩ := k1; exact DataW.trod_lt m _ _ _ hm
  clear hA0 hval0
  refine (walk (H := H) (enc := enc) W base v0 d0 p0 (hval 0 38 v0 rfl rfl) h0 (Fits.of_each hz (j := 0) rfl rfl) v1 d1 p1 (hval 1 22 v1 rfl rfl) h1 (Fits.of_each hz (j := 1) rfl rfl) hL).mono fun e W' ⟨he, bel⟩ => ?_
  subst he
  exact ⟨_, rfl, _, _, _, [], _, [], hW', trodAll_mk1 (shut_bool Tryd.underlying4 _), (trodAll_cons_mk (Below.trod laidOut (by kernel_rfl) (of_decide_eq_true (by kernel_rfl)) k0 bel lt0) (trodAll_cons_mk (Below.trod laidOut (by kernel_rfl) (of_decide_eq_true (by kernel_rfl)) k1 bel lt1) trodAll_mk0)), rfl, bel.frame _, fun h => by cases h⟩

noncomputable def w0 (os : Os) : World := { World.holding Tryd.prog os ⟨#[], #[], []⟩ with heap := (((World.holding Tryd.prog os ⟨#[], #[], []⟩).heap.modify (Tryd.prog.globalNamed "waybill/keccak.first" |>.getD 0) fun | .cells _ t fr => .cells #[.int .u8 1, .int .u8 6] t fr | o => o).modify (Tryd.prog.globalNamed "waybill/header.fields" |>.getD 0) fun | .cells _ t fr => .cells #[.int .i64 32, .int .i64 32, .int .i64 20, .int .i64 32, .int .i64 32, .int .i64 32, .int .i64 256, .int .i64 (-1), .int .i64 (-2), .int .i64 (-2), .int .i64 (-2), .int .i64 (-2), .int .i64 (-3), .int .i64 32, .int .i64 8, .int .i64 (-1), .int .i64 32, .int .i64 (-2), .int .i64 (-2), .int .i64 32, .int .i64 32] t fr | o => o) }
theorem laid_met (os : Os) : laidMet Tryd.prog Rows.headerBackRow.laid ((w0 os).forCall (fun _ _ => 0) ⟨#[], #[.agg ((List.replicate 436 (.int .u8 0) : List (Value)) ++ (List.replicate 8 (.int .u64 0) : List (Value)) ++ ([.slice none 0 0] : List (Value)) ++ (List.replicate 40 (.int .u8 0) : List (Value)) ++ ([.int .i64 0] : List (Value)) ++ (List.replicate 4 (.int .u64 0) : List (Value)) ++ (List.replicate 32 (.int .u8 0) : List (Value)) ++ ([.int .u64 0, .int .u64 0] : List (Value)) ++ (List.replicate 64 (.int .u8 0) : List (Value))).toArray, .slice none 0 0], []⟩).memory :=
  laidMet_of_run' 8 (by kernel_rfl) (by kernel_rfl)
theorem reads0 (os : Os) {H : Type} (enc : TypeId × Value → H) : ∃ places, DataW.whole enc Tryd.prog ((w0 os).forCall (fun _ _ => 0) ⟨#[], #[.agg ((List.replicate 436 (.int .u8 0) : List (Value)) ++ (List.replicate 8 (.int .u64 0) : List (Value)) ++ ([.slice none 0 0] : List (Value)) ++ (List.replicate 40 (.int .u8 0) : List (Value)) ++ ([.int .i64 0] : List (Value)) ++ (List.replicate 4 (.int .u64 0) : List (Value)) ++ (List.replicate 32 (.int .u8 0) : List (Value)) ++ ([.int .u64 0, .int .u64 0] : List (Value)) ++ (List.replicate 64 (.int .u8 0) : List (Value))).toArray, .slice none 0 0], []⟩).memory Tryd.f5.params.toList Rows.headerBackSpec.vars false (Array.toList #[.agg ((List.replicate 436 (.int .u8 0) : List (Value)) ++ (List.replicate 8 (.int .u64 0) : List (Value)) ++ ([.slice none 0 0] : List (Value)) ++ (List.replicate 40 (.int .u8 0) : List (Value)) ++ ([.int .i64 0] : List (Value)) ++ (List.replicate 4 (.int .u64 0) : List (Value)) ++ (List.replicate 32 (.int .u8 0) : List (Value)) ++ ([.int .u64 0, .int .u64 0] : List (Value)) ++ (List.replicate 64 (.int .u8 0) : List (Value))).toArray, .slice none 0 0]) 8 = some ([.agg [.agg ((List.replicate 32 (.lit (.int .u8 0)) : List (DataW H))), .agg ((List.replicate 32 (.lit (.int .u8 0)) : List (DataW H))), .agg ((List.replicate 20 (.lit (.int .u8 0)) : List (DataW H))), .agg ((List.replicate 32 (.lit (.int .u8 0)) : List (DataW H))), .agg ((List.replicate 32 (.lit (.int .u8 0)) : List (DataW H))), .agg ((List.replicate 32 (.lit (.int .u8 0)) : List (DataW H))), .agg ((List.replicate 256 (.lit (.int .u8 0)) : List (DataW H))), .agg ((List.replicate 4 (.lit (.int .u64 0)) : List (DataW H))), .lit (.int .u64 0), .lit (.int .u64 0), .lit (.int .u64 0), .lit (.int .u64 0), .nil, .agg ((List.replicate 32 (.lit (.int .u8 0)) : List (DataW H))), .agg ((List.replicate 8 (.lit (.int .u8 0)) : List (DataW H))), .lit (.int .i64 0), .agg ((List.replicate 4 (.lit (.int .u64 0)) : List (DataW H))), .agg ((List.replicate 32 (.lit (.int .u8 0)) : List (DataW H))), .lit (.int .u64 0), .lit (.int .u64 0), .agg ((List.replicate 32 (.lit (.int .u8 0)) : List (DataW H))), .agg ((List.replicate 32 (.lit (.int .u8 0)) : List (DataW H)))], .nil], [], places) :=
  ⟨[], by kernel_rfl⟩

theorem lifted (os : Os) (started : os.Started) (H : Type) (enc : TypeId × Value → H) (F : Stop.Interp) :
    ReturnsInHanded {} Tryd.checked os 5 .any ((OpenSpec.ofChange Rows.headerBackSpec).preRow enc Tryd.prog Tryd.f5 Rows.headerBackRow.domain false Rows.headerBackRow.laid) (((OpenSpec.ofChange Rows.headerBackSpec).at F).post enc Tryd.prog Tryd.f5 false true false false) := by
  obtain ⟨places, hx⟩ := reads0 os enc
  refine returnsInHanded_of_row (C := Tryd.checked) (s := (OpenSpec.ofChange Rows.headerBackSpec)) own started (by kernel_rfl) Tryd.func5
    (witness_row_at (enc := enc) (C := Tryd.checked) false (w0 os) #[.agg ((List.replicate 436 (.int .u8 0) : List (Value)) ++ (List.replicate 8 (.int .u64 0) : List (Value)) ++ ([.slice none 0 0] : List (Value)) ++ (List.replicate 40 (.int .u8 0) : List (Value)) ++ ([.int .i64 0] : List (Value)) ++ (List.replicate 4 (.int .u64 0) : List (Value)) ++ (List.replicate 32 (.int .u8 0) : List (Value)) ++ ([.int .u64 0, .int .u64 0] : List (Value)) ++ (List.replicate 64 (.int .u8 0) : List (Value))).toArray, .slice none 0 0] rfl (by kernel_rfl) (by kernel_rfl) (by kernel_rfl)
      (OpenSpec.preRow_of_cond 8 hx (by kernel_rfl) (fun k hk => by cases hk) (by kernel_rfl) (laid_met os))) ?_
  intro W base args ds gs before hval hW _ hcond hz hL _ _
  exact contract H enc W base args ds gs before hval hW hz hL

theorem said : Rows.HeaderBackSaid :=
  OpenClaim.holds_of_cond 5 Tryd.f5 rfl rfl rfl rfl rfl rfl rfl ⟨rfl, rfl, rfl, rfl, rfl⟩ rfl rfl rfl rfl rfl (by kernel_rfl) Tryd.func5 (by kernel_rfl)
    (of_decide_eq_true (by kernel_rfl)) (by unfold Func.isWrapper; first | (rw [if_pos (by decide +kernel)]; kernel_rfl) | (rw [if_neg (by decide +kernel)]; exact ⟨rfl, rfl⟩))
    (fun os started H enc _ F => by rw [OpenClaim.pre_eq_preRow]; exact lifted os started H enc F)

theorem plain (f : FuncId) (fn : Func) (hf : Tryd.pinned.checked.prog.funcNamed "waybill/waybilllaw19.HeaderBack" = some f) (hfn : Tryd.pinned.checked.prog.funcs[f]? = some fn) :
    false = Tryd.pinned.checked.prog.looks [] ∧ ∀ (j : Nat) t, fn.params[j]? = some t → Tryd.pinned.checked.prog.wantsStandIn t = false := by
  obtain rfl : f = 5 := Option.some.inj ((show Tryd.prog.funcNamed "waybill/waybilllaw19.HeaderBack" = some 5 by kernel_rfl).symm.trans hf) |>.symm
  obtain rfl : fn = Tryd.f5 := (Option.some.inj (Tryd.func5.symm.trans hfn)).symm
  refine ⟨by kernel_rfl, fun j t ht => ?_⟩
  rw [Tryd.params5] at ht
  have hm := Array.mem_of_getElem? ht
  simp only [List.mem_toArray, List.mem_cons, List.not_mem_nil, or_false] at hm
  rcases hm with rfl | rfl
  · exact (show Tryd.prog.wantsStandIn 38 = false by kernel_rfl)
  · exact (show Tryd.prog.wantsStandIn 22 = false by kernel_rfl)
theorem proved : Rows.HeaderBackCardSaid :=
  Claim7.holds_tied_plain_at .later [] _ _ _ _ said (fun _ h => by cases h) (by kernel_rfl) (fun _ h => by cases h) headerBack_row_tie rfl ⟨rfl, rfl⟩ (by kernel_rfl) rfl plain (by kernel_rfl)
#print axioms proved
end Go.Proofs.YtdmnfcjekomaiaaDoor.headerBack
