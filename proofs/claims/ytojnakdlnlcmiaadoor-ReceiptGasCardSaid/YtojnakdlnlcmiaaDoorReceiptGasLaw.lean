/- The gas that each transaction used, of any receipts, is what the document says, and sums to what each receipt tells; two answers share nothing; the receipts, and the room behind their lists, stay. -/
import Derived.Test.YtojnakdlnlcmiaaDoorRows
import Derived.Test.YtojnakdlnlcmiaaDoorCards
import Derived.Test.YtojnakdlnlcmiaaDoorTie
import Derived.WalkKit
import Derived.ProofKit
import Derived.OpenShut
import Derived.ShutString
import Derived.ChangeOld
import Derived.ChangeMaps5
import Derived.Below
import Derived.Deep.DeepHandedRow
import Derived.Lib.LaidTab
import Derived.Test.YtojnakdlnlcmiaaDoorT3
namespace Go.Proofs.YtojnakdlnlcmiaaDoor.receiptGas
open Go.ChangeShapes Go.WideShapes Go.ChangeAt Go.RowKit Go.Fw Go.Fw.Tryd
set_option linter.unusedVariables false
set_option maxRecDepth 100000

theorem own : ownKnob Tryd.prog.godebug = none := by kernel_rfl
theorem laidOut : laidOutB Tryd.prog = true := by kernel_rfl

theorem walk {H : Type} {enc : TypeId × Value → H} (W : World) (base : Nat) (v0 : Value) (d0 : DataW H) (p0 : List MemPlace) (val0 : Value.okWide Tryd.prog W .any base 22 v0) (h0 : DataW.Trod enc Tryd.prog W 0 (fun _ => true) true 22 v0 d0 p0) (z0 : Fits Tryd.prog 22 d0) (hL : laidMetH Tryd.prog Rows.receiptGasRow.laid W) :
    Calls Tryd.prog 3 #[v0] W fun e W' => e = .returned (.bool true) ∧ Below W.heap.size W W' := by
  have TL : LogTypes Tryd.prog 63 60 45 24 61 5 := { fs := _, f0 := _, f1 := _, f2 := _, hL := Tryd.underlying63, h0 := rfl, h1 := rfl, h2 := rfl, o0 := rfl, o1 := rfl, o2 := rfl, y0 := rfl, y1 := rfl, y2 := rfl, uA := Tryd.underlying60, uS := Tryd.underlying45, uH := Tryd.underlying24, uB := Tryd.underlying61, u8 := Tryd.underlying5, cA := by kernel_rfl, cS := by kernel_rfl, cH := by kernel_rfl, cB := by kernel_rfl, c8 := by kernel_rfl, cL := by kernel_rfl, b8 := by kernel_rfl, bH := by kernel_rfl, bL := by kernel_rfl }
  have TR : RcptTypes Tryd.prog 30 3 4 24 25 27 28 63 5 := { fs := _, f0 := _, f1 := _, f2 := _, f3 := _, f4 := _, f5 := _, f6 := _, hR := Tryd.underlying30, h0 := rfl, o0 := rfl, y0 := rfl, h1 := rfl, o1 := rfl, y1 := rfl, h2 := rfl, o2 := rfl, y2 := rfl, h3 := rfl, o3 := rfl, y3 := rfl, h4 := rfl, o4 := rfl, y4 := rfl, h5 := rfl, o5 := rfl, y5 := rfl, h6 := rfl, o6 := rfl, y6 := rfl, uN := Tryd.underlying3, uO := Tryd.underlying4, uH := Tryd.underlying24, uU := Tryd.underlying25, uM := Tryd.underlying27, uL := Tryd.underlying28, u8 := Tryd.underlying5, cN := by kernel_rfl, cO := by kernel_rfl, cH := by kernel_rfl, cU := by kernel_rfl, cM := by kernel_rfl, cLs := by kernel_rfl, c8 := by kernel_rfl, cR := by kernel_rfl }
  have hmark : ∀ {n : Nat} (g : Nat) (m : Vector (BitVec 8) n) (zs : List Int), (∀ i, i < n → W.cell? ⟨g, i, none⟩ = some (.int .u8 (zs.getD i 0))) → (∀ (i : Nat) (h : i < n), ((m[i]).toNat : Int) = zs.getD i 0) → ∀ j u, (u8s m.toList)[j]? = some u → W.cell? ⟨g, j, none⟩ = some u := fun {n} g m zs h1 h2 j u hj => by
    have hl : j < n := by have := (List.getElem?_eq_some_iff.1 hj).1; rwa [Z100, Vector.length_toList] at this
    rw [h1 j hl, ← hj, ← h2 j hl]
    have e : m.toList[j]? = some m[j] := by rw [Vector.getElem?_toList]; exact Vector.getElem?_eq_getElem hl
    rw [u8s, List.getElem?_map, e]
    rfl
  have hgH := hmark 1 markH (165 :: 90 :: List.replicate 30 0) (fun i hi => laid_tab (name := "waybill/waybillplay.markHash") (zs := 165 :: 90 :: List.replicate 30 0) hL (by kernel_rfl) (by kernel_rfl) (by kernel_rfl) (by kernel_rfl) Tryd.underlying24 Tryd.underlying5 (by kernel_rfl) (by kernel_rfl) i hi) (by decide)
  have hgA := hmark 0 markA (165 :: 90 :: List.replicate 18 0) (fun i hi => laid_tab (name := "waybill/waybillplay.markAddress") (zs := 165 :: 90 :: List.replicate 18 0) hL (by kernel_rfl) (by kernel_rfl) (by kernel_rfl) (by kernel_rfl) Tryd.underlying60 Tryd.underlying5 (by kernel_rfl) (by kernel_rfl) i hi) (by decide)
  obtain ⟨A0, cap0, cells0, xs0, rfl, vw0, rp0, mx0, sm0⟩ := arg_rcpts TR TL Tryd.underlying22 (by kernel_rfl) val0 h0 z0
  obtain ⟨res, ec, f1, f2, f3, f4, f5⟩ := gas_eq xs0 (by omega)
  exact DoesG.law (waybilllaw17_ReceiptGas_does W _ [] (fun _ m => m) A0 cap0 cells0 xs0 res ec vw0 rp0 hgH hgA (fun r hr => ⟨by have := (sm0 r hr).1; omega, fun x hx => by have := (sm0 r hr).2 x hx; omega⟩) (by omega) f1 f2 f3 f4 f5 (fun r hr => sameRcpt_refl r) (num17 _)) (fun v G h => h)

theorem contract (H : Type) (enc : TypeId × Value → H) (W : World) (base : Nat) (args : Array Value) (ds gs : List (DataW H)) (before : List MemPlace)
    (hval0 : ∀ (j : Nat) t v, Tryd.f3.params[j]? = some t → args[j]? = some v → Value.okWide Tryd.prog W .any base t v)
    (hW : DataW.Whole enc Tryd.prog Tryd.f3.params.toList Rows.receiptGasSpec.vars false W args.toList ds gs before)
    (hz : (DataW.weightsEach Tryd.prog (Tryd.f3.params.toList ++ (OpenSpec.ofChange Rows.receiptGasSpec).bare.plain.varTypes Tryd.prog) (ds ++ gs)).all (· ≤ reachBytes) = true) (hL : laidMetH Tryd.prog Rows.receiptGasRow.laid W) :
    Calls Tryd.prog 3 args W fun e W' => ∃ v, e = .returned v ∧ Rows.receiptGasSpec.post enc Tryd.prog Tryd.f3 false true false false W args v W' := by
  have hval : ∀ (j : Nat) t v, Tryd.f3.params[j]? = some t → args[j]? = some v → Value.okWide Tryd.prog W .any base t v := hval0
  have hW' := hW
  obtain ⟨p, q, hA0, hV, rfl, hfz, hnd⟩ := hW
  have hA : DataW.TrodAll enc Tryd.prog W 0 (fun _ => true) true Tryd.f3.params.toList args.toList ds p := hA0
  rw [Tryd.params3] at hA hval hz
  obtain ⟨v0, vs0, d0, ds0, p0, q0, hargs, rfl, rfl, h0, r0⟩ := trodAll_cons hA
  obtain ⟨rfl, rfl, rfl⟩ := trodAll_nil r0
  obtain rfl : args = #[v0] := by cases args; simp_all
  obtain ⟨rfl, rfl⟩ := trodVars_none hV
  have k0 := h0
  have lt0 : ∀ x ∈ p0, x.block < W.heap.size := by obtain ⟨m, hm⟩ := k0; exact DataW.trod_lt m _ _ _ hm
  clear hA0 hval0
  refine (walk (H := H) (enc := enc) W base v0 d0 p0 (hval 0 22 v0 rfl rfl) h0 (Fits.of_each hz (j := 0) rfl rfl) hL).mono fun e W' ⟨he, bel⟩ => ?_
  subst he
  exact ⟨_, rfl, _, _, _, [], _, [], hW', trodAll_mk1 (shut_bool Tryd.underlying4 _), (trodAll_cons_mk (Below.trod laidOut (by kernel_rfl) (of_decide_eq_true (by kernel_rfl)) k0 bel lt0) trodAll_mk0), rfl, bel.frame _, fun h => by cases h⟩

noncomputable def w0 (os : Os) : World := { World.holding Tryd.prog os ⟨#[], #[], []⟩ with heap := (((World.holding Tryd.prog os ⟨#[], #[], []⟩).heap.modify (Tryd.prog.globalNamed "waybill/waybillplay.markHash" |>.getD 0) fun | .cells _ t fr => .cells #[.int .u8 165, .int .u8 90, .int .u8 0, .int .u8 0, .int .u8 0, .int .u8 0, .int .u8 0, .int .u8 0, .int .u8 0, .int .u8 0, .int .u8 0, .int .u8 0, .int .u8 0, .int .u8 0, .int .u8 0, .int .u8 0, .int .u8 0, .int .u8 0, .int .u8 0, .int .u8 0, .int .u8 0, .int .u8 0, .int .u8 0, .int .u8 0, .int .u8 0, .int .u8 0, .int .u8 0, .int .u8 0, .int .u8 0, .int .u8 0, .int .u8 0, .int .u8 0] t fr | o => o).modify (Tryd.prog.globalNamed "waybill/waybillplay.markAddress" |>.getD 0) fun | .cells _ t fr => .cells #[.int .u8 165, .int .u8 90, .int .u8 0, .int .u8 0, .int .u8 0, .int .u8 0, .int .u8 0, .int .u8 0, .int .u8 0, .int .u8 0, .int .u8 0, .int .u8 0, .int .u8 0, .int .u8 0, .int .u8 0, .int .u8 0, .int .u8 0, .int .u8 0, .int .u8 0, .int .u8 0] t fr | o => o) }
theorem laid_met (os : Os) : laidMet Tryd.prog Rows.receiptGasRow.laid ((w0 os).forCall (fun _ _ => 0) ⟨#[], #[.slice none 0 0], []⟩).memory :=
  laidMet_of_run' 8 (by kernel_rfl) (by kernel_rfl)
theorem reads0 (os : Os) {H : Type} (enc : TypeId × Value → H) : ∃ places, DataW.whole enc Tryd.prog ((w0 os).forCall (fun _ _ => 0) ⟨#[], #[.slice none 0 0], []⟩).memory Tryd.f3.params.toList Rows.receiptGasSpec.vars false (Array.toList #[.slice none 0 0]) 8 = some ([.nil], [], places) :=
  ⟨[], by kernel_rfl⟩

theorem lifted (os : Os) (started : os.Started) (H : Type) (enc : TypeId × Value → H) (F : Stop.Interp) :
    ReturnsInHanded {} Tryd.checked os 3 .any ((OpenSpec.ofChange Rows.receiptGasSpec).preRow enc Tryd.prog Tryd.f3 Rows.receiptGasRow.domain false Rows.receiptGasRow.laid) (((OpenSpec.ofChange Rows.receiptGasSpec).at F).post enc Tryd.prog Tryd.f3 false true false false) := by
  obtain ⟨places, hx⟩ := reads0 os enc
  refine returnsInHanded_of_row (C := Tryd.checked) (s := (OpenSpec.ofChange Rows.receiptGasSpec)) own started (by kernel_rfl) Tryd.func3
    (witness_row_at (enc := enc) (C := Tryd.checked) false (w0 os) #[.slice none 0 0] rfl (by kernel_rfl) (by kernel_rfl) (by kernel_rfl)
      (OpenSpec.preRow_of_cond 8 hx (by kernel_rfl) (fun k hk => by cases hk) (by kernel_rfl) (laid_met os))) ?_
  intro W base args ds gs before hval hW _ hcond hz hL _ _
  exact contract H enc W base args ds gs before hval hW hz hL

theorem said : Rows.ReceiptGasSaid :=
  OpenClaim.holds_of_cond 3 Tryd.f3 rfl rfl rfl rfl rfl rfl rfl ⟨rfl, rfl, rfl, rfl, rfl⟩ rfl rfl rfl rfl rfl (by kernel_rfl) Tryd.func3 (by kernel_rfl)
    (of_decide_eq_true (by kernel_rfl)) (by unfold Func.isWrapper; first | (rw [if_pos (by decide +kernel)]; kernel_rfl) | (rw [if_neg (by decide +kernel)]; exact ⟨rfl, rfl⟩))
    (fun os started H enc _ F => by rw [OpenClaim.pre_eq_preRow]; exact lifted os started H enc F)

theorem plain (f : FuncId) (fn : Func) (hf : Tryd.pinned.checked.prog.funcNamed "waybill/waybilllaw17.ReceiptGas" = some f) (hfn : Tryd.pinned.checked.prog.funcs[f]? = some fn) :
    false = Tryd.pinned.checked.prog.looks [] ∧ ∀ (j : Nat) t, fn.params[j]? = some t → Tryd.pinned.checked.prog.wantsStandIn t = false := by
  obtain rfl : f = 3 := Option.some.inj ((show Tryd.prog.funcNamed "waybill/waybilllaw17.ReceiptGas" = some 3 by kernel_rfl).symm.trans hf) |>.symm
  obtain rfl : fn = Tryd.f3 := (Option.some.inj (Tryd.func3.symm.trans hfn)).symm
  refine ⟨by kernel_rfl, fun j t ht => ?_⟩
  rw [Tryd.params3] at ht
  have hm := Array.mem_of_getElem? ht
  simp only [List.mem_toArray, List.mem_cons, List.not_mem_nil, or_false] at hm
  subst hm
  exact (show Tryd.prog.wantsStandIn 22 = false by kernel_rfl)
theorem proved : Rows.ReceiptGasCardSaid :=
  Claim7.holds_tied_plain_at .later [] _ _ _ _ said (fun _ h => by cases h) (by kernel_rfl) (fun _ h => by cases h) receiptGas_row_tie rfl ⟨rfl, rfl⟩ (by kernel_rfl) rfl plain (by kernel_rfl)
#print axioms proved
end Go.Proofs.YtojnakdlnlcmiaaDoor.receiptGas
