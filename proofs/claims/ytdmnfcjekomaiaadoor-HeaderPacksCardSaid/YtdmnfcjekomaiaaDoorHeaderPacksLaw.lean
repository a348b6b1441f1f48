/- Check, Item, Encode and Hash of every header are the documents own; the header stays, and each answer is new memory. -/
import Derived.Test.YtdmnfcjekomaiaaDoorRows
import Derived.Test.YtdmnfcjekomaiaaDoorCards
import Derived.Test.YtdmnfcjekomaiaaDoorTie
import Derived.WalkKit
import Derived.ProofKit
import Derived.OpenShut
import Derived.ShutString
import Derived.ChangeOld
import Derived.ChangeMaps5
import Derived.Below
import Derived.Deep.DeepHandedRow
import Derived.Lib.LaidTab
import Derived.Test.YtdmnfcjekomaiaaDoorT8
namespace Go.Proofs.YtdmnfcjekomaiaaDoor.headerPacks
open Go.ChangeShapes Go.WideShapes Go.ChangeAt Go.RowKit Go.Fw Go.Fw.Tryd
set_option linter.unusedVariables false
set_option maxRecDepth 100000

theorem own : ownKnob Tryd.prog.godebug = none := by kernel_rfl
theorem laidOut : laidOutB Tryd.prog = true := by kernel_rfl

theorem walk {H : Type} {enc : TypeId × Value → H} (W : World) (base : Nat) (v0 : Value) (d0 : DataW H) (p0 : List MemPlace) (val0 : Value.okWide Tryd.prog W .any base 38 v0) (h0 : DataW.Trod enc Tryd.prog W 0 (fun _ => true) true 38 v0 d0 p0) (z0 : Fits Tryd.prog 38 d0) (hL : laidMetH Tryd.prog Rows.headerPacksRow.laid W) :
    Calls Tryd.prog 4 #[v0] W fun e W' => e = .returned (.bool true) ∧ Below W.heap.size W W' := by
  have R : HdrTypes Tryd.prog 38 3 28 30 32 36 35 33 22 5 := { fs := _, f0 := _, f1 := _, f2 := _, f3 := _, f4 := _, f5 := _, f6 := _, f7 := _, f8 := _, f9 := _, f10 := _, f11 := _, f12 := _, f13 := _, f14 := _, f15 := _, f16 := _, f17 := _, f18 := _, f19 := _, f20 := _, f21 := _, hR := Tryd.underlying38, h0 := rfl, o0 := rfl, y0 := rfl, h1 := rfl, o1 := rfl, y1 := rfl, h2 := rfl, o2 := rfl, y2 := rfl, h3 := rfl, o3 := rfl, y3 := rfl, h4 := rfl, o4 := rfl, y4 := rfl, h5 := rfl, o5 := rfl, y5 := rfl, h6 := rfl, o6 := rfl, y6 := rfl, h7 := rfl, o7 := rfl, y7 := rfl, h8 := rfl, o8 := rfl, y8 := rfl, h9 := rfl, o9 := rfl, y9 := rfl, h10 := rfl, o10 := rfl, y10 := rfl, h11 := rfl, o11 := rfl, y11 := rfl, h12 := rfl, o12 := rfl, y12 := rfl, h13 := rfl, o13 := rfl, y13 := rfl, h14 := rfl, o14 := rfl, y14 := rfl, h15 := rfl, o15 := rfl, y15 := rfl, h16 := rfl, o16 := rfl, y16 := rfl, h17 := rfl, o17 := rfl, y17 := rfl, h18 := rfl, o18 := rfl, y18 := rfl, h19 := rfl, o19 := rfl, y19 := rfl, h20 := rfl, o20 := rfl, y20 := rfl, h21 := rfl, o21 := rfl, y21 := rfl, uN := Tryd.underlying3, uH := Tryd.underlying28, uA := Tryd.underlying30, uM := Tryd.underlying32, uE := Tryd.underlying36, uQ := Tryd.underlying35, uU := Tryd.underlying33, uS := Tryd.underlying22, u8 := Tryd.underlying5, cN := by kernel_rfl, cH := by kernel_rfl, cA := by kernel_rfl, cM := by kernel_rfl, cE := by kernel_rfl, cQ := by kernel_rfl, cU := by kernel_rfl, cS := by kernel_rfl, c8 := by kernel_rfl, b8 := by kernel_rfl, cR := by kernel_rfl }
  have hT : ∀ i, i < 2 → W.cell? ⟨1, i, none⟩ = some (.int .u8 (([1, 6] : List Int).getD i 0)) := fun i hi => laid_tab (name := "waybill/keccak.first") (zs := [1, 6]) hL (by kernel_rfl) (by kernel_rfl) (by kernel_rfl) (by kernel_rfl) Tryd.underlying177 Tryd.underlying5 (by kernel_rfl) (by kernel_rfl) i hi
  have hg1 : View (fun w => Mem W w []) (some ⟨1, 0, none⟩) 2 2 1 (u8s firstL) := View.of_rd ⟨fun _ => rfl, fun j u h => by
    have hj : j < 2 := (List.getElem?_eq_some_iff.1 h).1
    show W.cell? ((⟨1, 0, none⟩ : Addr).add j) = some u
    rw [Z118, Nat.zero_add, hT j hj]
    rcases (by omega : j = 0 ∨ j = 1) with rfl | rfl
    · exact h
    · exact h⟩ rfl (by omega) (by omega)
  have hTn : ∀ i, i < 25 → W.cell? ⟨5, i, none⟩ = some (.int .i64 (turnsL.getD i 0)) := fun i hi => laid_tab (name := "waybill/waybillref02.turns") (zs := turnsL) hL (by kernel_rfl) (by kernel_rfl) (by kernel_rfl) (by kernel_rfl) Tryd.underlying204 Tryd.underlying3 (by kernel_rfl) (by kernel_rfl) i hi
  have hR := laid_u64 (name := "waybill/waybillref02.rounds") (K := roundsL) hL (by kernel_rfl) (by kernel_rfl) (g := 2) (by kernel_rfl) (by kernel_rfl) Tryd.underlying192 Tryd.underlying33 (by kernel_rfl) (by kernel_rfl)
  have hRn : ∀ i, i < 24 → W.cell? ⟨2, i, none⟩ = some (U64 (g64 roundsL i)) := fun i hi => by
    have := hR i _ (Z150 (l := roundsL) hi)
    rwa [Z118, Nat.zero_add] at this
  obtain ⟨cs0, x0, rfl, hr0, hx0⟩ := arg_hdr R val0 h0 z0
  exact DoesG.law (waybilllaw19_HeaderPacks_does W _ [] (fun _ m => m) cs0 x0 hr0 (by omega) hg1 hTn hRn) (fun v G h => h)

theorem contract (H : Type) (enc : TypeId × Value → H) (W : World) (base : Nat) (args : Array Value) (ds gs : List (DataW H)) (before : List MemPlace)
    (hval0 : ∀ (j : Nat) t v, Tryd.f4.params[j]? = some t → args[j]? = some v → Value.okWide Tryd.prog W .any base t v)
    (hW : DataW.Whole enc Tryd.prog Tryd.f4.params.toList Rows.headerPacksSpec.vars false W args.toList ds gs before)
    (hz : (DataW.weightsEach Tryd.prog (Tryd.f4.params.toList ++ (OpenSpec.ofChange Rows.headerPacksSpec).bare.plain.varTypes Tryd.prog) (ds ++ gs)).all (· ≤ reachBytes) = true) (hL : laidMetH Tryd.prog Rows.headerPacksRow.laid W) :
    Calls Tryd.prog 4 args W fun e W' => ∃ v, e = .returned v ∧ Rows.headerPacksSpec.post enc Tryd.prog Tryd.f4 false true false false W args v W' := by
  have hval : ∀ (j : Nat) t v, Tryd.f4.params[j]? = some t → args[j]? = some v → Value.okWide Tryd.prog W .any base t v := hval0
  have hW' := hW
  obtain ⟨p, q, hA0, hV, rfl, hfz, hnd⟩ := hW
  have hA : DataW.TrodAll enc Tryd.prog W 0 (fun _ => true) true Tryd.f4.params.toList args.toList ds p := hA0
  rw [Tryd.params4] at hA hval hz
  obtain ⟨v0, vs0, d0, ds0, p0, q0, hargs, rfl, rfl, h0, r0⟩ := trodAll_cons hA
  obtain ⟨rfl, rfl, rfl⟩ := trodAll_nil r0
  obtain rfl : args = #[v0] := by cases args; simp_all
  obtain ⟨rfl, rfl⟩ := trodVars_none hV
  have k0 := h0
  have lt0 : ∀ x ∈ p0, x.block < W.heap.size := by obtain ⟨m, hm⟩ := k0; exact DataW.trod_lt m _ _ _ hm
  clear hA0 hval0
  refine (walk (H := H) (enc := enc) W base v0 d0 p0 (hval 0 38 v0 rfl rfl) h0 (Fits.of_each hz (j := 0) rfl rfl) hL).mono fun e W' ⟨he, bel⟩ => ?_
  subst he
  exact ⟨_, rfl, _, _, _, [], _, [], hW', trodAll_mk1 (shut_bool Tryd.underlying4 _), (trodAll_cons_mk (Below.trod laidOut (by kernel_rfl) (of_decide_eq_true (by kernel_rfl)) k0 bel lt0) trodAll_mk0), rfl, bel.frame _, fun h => by cases h⟩

noncomputable def w0 (os : Os) : World := { World.holding Tryd.prog os ⟨#[], #[], []⟩ with heap := ((((World.holding Tryd.prog os ⟨#[], #[], []⟩).heap.modify (Tryd.prog.globalNamed "waybill/keccak.first" |>.getD 0) fun | .cells _ t fr => .cells #[.int .u8 1, .int .u8 6] t fr | o => o).modify (Tryd.prog.globalNamed "waybill/waybillref02.rounds" |>.getD 0) fun | .cells _ t fr => .cells #[.int .u64 1, .int .u64 32898, .int .u64 9223372036854808714, .int .u64 9223372039002292224, .int .u64 32907, .int .u64 2147483649, .int .u64 9223372039002292353, .int .u64 9223372036854808585, .int .u64 138, .int .u64 136, .int .u64 2147516425, .int .u64 2147483658, .int .u64 2147516555, .int .u64 9223372036854775947, .int .u64 9223372036854808713, .int .u64 9223372036854808579, .int .u64 9223372036854808578, .int .u64 9223372036854775936, .int .u64 32778, .int .u64 9223372039002259466, .int .u64 9223372039002292353, .int .u64 9223372036854808704, .int .u64 2147483649, .int .u64 9223372039002292232] t fr | o => o).modify (Tryd.prog.globalNamed "waybill/waybillref02.turns" |>.getD 0) fun | .cells _ t fr => .cells #[.int .i64 0, .int .i64 1, .int .i64 62, .int .i64 28, .int .i64 27, .int .i64 36, .int .i64 44, .int .i64 6, .int .i64 55, .int .i64 20, .int .i64 3, .int .i64 10, .int .i64 43, .int .i64 25, .int .i64 39, .int .i64 41, .int .i64 45, .int .i64 15, .int .i64 21, .int .i64 8, .int .i64 18, .int .i64 2, .int .i64 61, .int .i64 56, .int .i64 14] t fr | o => o) }
theorem laid_met (os : Os) : laidMet Tryd.prog Rows.headerPacksRow.laid ((w0 os).forCall (fun _ _ => 0) ⟨#[], #[.agg ((List.replicate 436 (.int .u8 0) : List (Value)) ++ (List.replicate 8 (.int .u64 0) : List (Value)) ++ ([.slice none 0 0] : List (Value)) ++ (List.replicate 40 (.int .u8 0) : List (Value)) ++ ([.int .i64 0] : List (Value)) ++ (List.replicate 4 (.int .u64 0) : List (Value)) ++ (List.replicate 32 (.int .u8 0) : List (Value)) ++ ([.int .u64 0, .int .u64 0] : List (Value)) ++ (List.replicate 64 (.int .u8 0) : List (Value))).toArray], []⟩).memory :=
  laidMet_of_run' 8 (by kernel_rfl) (by kernel_rfl)
theorem reads0 (os : Os) {H : Type} (enc : TypeId × Value → H) : ∃ places, DataW.whole enc Tryd.prog ((w0 os).forCall (fun _ _ => 0) ⟨#[], #[.agg ((List.replicate 436 (.int .u8 0) : List (Value)) ++ (List.replicate 8 (.int .u64 0) : List (Value)) ++ ([.slice none 0 0] : List (Value)) ++ (List.replicate 40 (.int .u8 0) : List (Value)) ++ ([.int .i64 0] : List (Value)) ++ (List.replicate 4 (.int .u64 0) : List (Value)) ++ (List.replicate 32 (.int .u8 0) : List (Value)) ++ ([.int .u64 0, .int .u64 0] : List (Value)) ++ (List.replicate 64 (.int .u8 0) : List (Value))).toArray], []⟩).memory Tryd.f4.params.toList Rows.headerPacksSpec.vars false (Array.toList #[.agg ((List.replicate 436 (.int .u8 0) : List (Value)) ++ (List.replicate 8 (.int .u64 0) : List (Value)) ++ ([.slice none 0 0] : List (Value)) ++ (List.replicate 40 (.int .u8 0) : List (Value)) ++ ([.int .i64 0] : List (Value)) ++ (List.replicate 4 (.int .u64 0) : List (Value)) ++ (List.replicate 32 (.int .u8 0) : List (Value)) ++ ([.int .u64 0, .int .u64 0] : List (Value)) ++ (List.replicate 64 (.int .u8 0) : List (Value))).toArray]) 8 = some ([.agg [.agg ((List.replicate 32 (.lit (.int .u8 0)) : List (DataW H))), .agg ((List.replicate 32 (.lit (.int .u8 0)) : List (DataW H))), .agg ((List.replicate 20 (.lit (.int .u8 0)) : List (DataW H))), .agg ((List.replicate 32 (.lit (.int .u8 0)) : List (DataW H))), .agg ((List.replicate 32 (.lit (.int .u8 0)) : List (DataW H))), .agg ((List.replicate 32 (.lit (.int .u8 0)) : List (DataW H))), .agg ((List.replicate 256 (.lit (.int .u8 0)) : List (DataW H))), .agg ((List.replicate 4 (.lit (.int .u64 0)) : List (DataW H))), .lit (.int .u64 0), .lit (.int .u64 0), .lit (.int .u64 0), .lit (.int .u64 0), .nil, .agg ((List.replicate 32 (.lit (.int .u8 0)) : List (DataW H))), .agg ((List.replicate 8 (.lit (.int .u8 0)) : List (DataW H))), .lit (.int .i64 0), .agg ((List.replicate 4 (.lit (.int .u64 0)) : List (DataW H))), .agg ((List.replicate 32 (.lit (.int .u8 0)) : List (DataW H))), .lit (.int .u64 0), .lit (.int .u64 0), .agg ((List.replicate 32 (.lit (.int .u8 0)) : List (DataW H))), .agg ((List.replicate 32 (.lit (.int .u8 0)) : List (DataW H)))]], [], places) :=
  ⟨[], by kernel_rfl⟩

theorem lifted (os : Os) (started : os.Started) (H : Type) (enc : TypeId × Value → H) (F : Stop.Interp) :
    ReturnsInHanded {} Tryd.checked os 4 .any ((OpenSpec.ofChange Rows.headerPacksSpec).preRow enc Tryd.prog Tryd.f4 Rows.headerPacksRow.domain false Rows.headerPacksRow.laid) (((OpenSpec.ofChange Rows.headerPacksSpec).at F).post enc Tryd.prog Tryd.f4 false true false false) := by
  obtain ⟨places, hx⟩ := reads0 os enc
  refine returnsInHanded_of_row (C := Tryd.checked) (s := (OpenSpec.ofChange Rows.headerPacksSpec)) own started (by kernel_rfl) Tryd.func4
    (witness_row_at (enc := enc) (C := Tryd.checked) false (w0 os) #[.agg ((List.replicate 436 (.int .u8 0) : List (Value)) ++ (List.replicate 8 (.int .u64 0) : List (Value)) ++ ([.slice none 0 0] : List (Value)) ++ (List.replicate 40 (.int .u8 0) : List (Value)) ++ ([.int .i64 0] : List (Value)) ++ (List.replicate 4 (.int .u64 0) : List (Value)) ++ (List.replicate 32 (.int .u8 0) : List (Value)) ++ ([.int .u64 0, .int .u64 0] : List (Value)) ++ (List.replicate 64 (.int .u8 0) : List (Value))).toArray] rfl (by kernel_rfl) (by kernel_rfl) (by kernel_rfl)
      (OpenSpec.preRow_of_cond 8 hx (by kernel_rfl) (fun k hk => by cases hk) (by kernel_rfl) (laid_met os))) ?_
  intro W base args ds gs before hval hW _ hcond hz hL _ _
  exact contract H enc W base args ds gs before hval hW hz hL

theorem said : Rows.HeaderPacksSaid :=
  OpenClaim.holds_of_cond 4 Tryd.f4 rfl rfl rfl rfl rfl rfl rfl ⟨rfl, rfl, rfl, rfl, rfl⟩ rfl rfl rfl rfl rfl (by kernel_rfl) Tryd.func4 (by kernel_rfl)
    (of_decide_eq_true (by kernel_rfl)) (by unfold Func.isWrapper; first | (rw [if_pos (by decide +kernel)]; kernel_rfl) | (rw [if_neg (by decide +kernel)]; exact ⟨rfl, rfl⟩))
    (fun os started H enc _ F => by rw [OpenClaim.pre_eq_preRow]; exact lifted os started H enc F)

theorem plain (f : FuncId) (fn : Func) (hf : Tryd.pinned.checked.prog.funcNamed "waybill/waybilllaw19.HeaderPacks" = some f) (hfn : Tryd.pinned.checked.prog.funcs[f]? = some fn) :
    false = Tryd.pinned.checked.prog.looks [] ∧ ∀ (j : Nat) t, fn.params[j]? = some t → Tryd.pinned.checked.prog.wantsStandIn t = false := by
  obtain rfl : f = 4 := Option.some.inj ((show Tryd.prog.funcNamed "waybill/waybilllaw19.HeaderPacks" = some 4 by kernel_rfl).symm.trans hf) |>.symm
  obtain rfl : fn = Tryd.f4 := (Option.some.inj (Tryd.func4.symm.trans hfn)).symm
  refine ⟨by kernel_rfl, fun j t ht => ?_⟩
  rw [Tryd.params4] at ht
  have hm := Array.mem_of_getElem? ht
  simp only [List.mem_toArray, List.mem_cons, List.not_mem_nil, or_false] at hm
  subst hm
  exact (show Tryd.prog.wantsStandIn 38 = false by kernel_rfl)
theorem proved : Rows.HeaderPacksCardSaid :=
  Claim7.holds_tied_plain_at .later [] _ _ _ _ said (fun _ h => by cases h) (by kernel_rfl) (fun _ h => by cases h) headerPacks_row_tie rfl ⟨rfl, rfl⟩ (by kernel_rfl) rfl plain (by kernel_rfl)
#print axioms proved
end Go.Proofs.YtdmnfcjekomaiaaDoor.headerPacks
