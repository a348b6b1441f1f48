/- A receipt made of logs, with one bit of its bloom turned, is refused by Check and by Encode; where what the law reads is of bulk at most 1048576. -/
import Derived.Test.YtojnakdlnlcmiaaDoorRows
import Derived.Test.YtojnakdlnlcmiaaDoorCards
import Derived.Test.YtojnakdlnlcmiaaDoorTie
import Derived.WalkKit
import Derived.ProofKit
import Derived.OpenShut
import Derived.ShutString
import Derived.ChangeOld
import Derived.ChangeMaps5
import Derived.Below
import Derived.Deep.DeepHandedRow
import Derived.Lib.LaidTab
import Derived.Test.YtojnakdlnlcmiaaDoorT7
namespace Go.Proofs.YtojnakdlnlcmiaaDoor.receiptSpoilt
open Go.ChangeShapes Go.WideShapes Go.ChangeAt Go.RowKit Go.Fw Go.Fw.Tryd
set_option linter.unusedVariables false
set_option maxRecDepth 100000

theorem own : ownKnob Tryd.prog.godebug = none := by kernel_rfl
theorem laidOut : laidOutB Tryd.prog = true := by kernel_rfl

theorem walk {H : Type} {enc : TypeId × Value → H} (W : World) (base : Nat) (v0 : Value) (d0 : DataW H) (p0 : List MemPlace) (val0 : Value.okWide Tryd.prog W .any base 3 v0) (h0 : DataW.Trod enc Tryd.prog W 0 (fun _ => true) true 3 v0 d0 p0) (z0 : Fits Tryd.prog 3 d0) (v1 : Value) (d1 : DataW H) (p1 : List MemPlace) (val1 : Value.okWide Tryd.prog W .any base 25 v1) (h1 : DataW.Trod enc Tryd.prog W 0 (fun _ => true) true 25 v1 d1 p1) (z1 : Fits Tryd.prog 25 d1) (v2 : Value) (d2 : DataW H) (p2 : List MemPlace) (val2 : Value.okWide Tryd.prog W .any base 28 v2) (h2 : DataW.Trod enc Tryd.prog W 0 (fun _ => true) true 28 v2 d2 p2) (z2 : Fits Tryd.prog 28 d2) (v3 : Value) (d3 : DataW H) (p3 : List MemPlace) (val3 : Value.okWide Tryd.prog W .any base 3 v3) (h3 : DataW.Trod enc Tryd.prog W 0 (fun _ => true) true 3 v3 d3 p3) (z3 : Fits Tryd.prog 3 d3) (bulk : Rows.uptoBulkAll [d0, d1, d2, d3] ≤ 1048576) (hL : laidMetH Tryd.prog Rows.receiptSpoiltUptoRow.laid W) :
    Calls Tryd.prog 11 #[v0, v1, v2, v3] W fun e W' => e = .returned (.bool true) ∧ Below W.heap.size W W' := by
  have TL : LogTypes Tryd.prog 63 60 45 24 61 5 := { fs := _, f0 := _, f1 := _, f2 := _, hL := Tryd.underlying63, h0 := rfl, h1 := rfl, h2 := rfl, o0 := rfl, o1 := rfl, o2 := rfl, y0 := rfl, y1 := rfl, y2 := rfl, uA := Tryd.underlying60, uS := Tryd.underlying45, uH := Tryd.underlying24, uB := Tryd.underlying61, u8 := Tryd.underlying5, cA := by kernel_rfl, cS := by kernel_rfl, cH := by kernel_rfl, cB := by kernel_rfl, c8 := by kernel_rfl, cL := by kernel_rfl, b8 := by kernel_rfl, bH := by kernel_rfl, bL := by kernel_rfl }
  have hT : ∀ i, i < 2 → W.cell? ⟨2, i, none⟩ = some (.int .u8 (([1, 6] : List Int).getD i 0)) := fun i hi => laid_tab (name := "waybill/keccak.first") (zs := [1, 6]) hL (by kernel_rfl) (by kernel_rfl) (by kernel_rfl) (by kernel_rfl) Tryd.underlying198 Tryd.underlying5 (by kernel_rfl) (by kernel_rfl) i hi
  have hg : View (fun w => Mem W w []) (some ⟨2, 0, none⟩) 2 2 1 (u8s firstL) := View.of_rd ⟨fun _ => rfl, fun j u h => by
    have hj : j < 2 := (List.getElem?_eq_some_iff.1 h).1
    show W.cell? ((⟨2, 0, none⟩ : Addr).add j) = some u
    rw [Addr.add_none, Nat.zero_add, hT j hj]
    rcases (by omega : j = 0 ∨ j = 1) with rfl | rfl
    · exact h
    · exact h⟩ rfl (by omega) (by omega)
  have hp : ∀ d : DataW H, 1 ≤ Rows.uptoBulk d := fun d => by cases d with
    | lit l => cases l <;> simp [Rows.uptoBulk]
    | _ => simp [Rows.uptoBulk]
  have BF : BulkFn (H := H) Rows.uptoBulk Rows.uptoBulkAll := ⟨by simp [Rows.uptoBulkAll], fun d r => by simp [Rows.uptoBulkAll], fun el sp => by simp [Rows.uptoBulk], fun l => by simp [Rows.uptoBulk], hp⟩
  obtain ⟨a0, rfl, rfl, rfl, w0⟩ := open_int Tryd.underlying3 val0 h0
  obtain ⟨a1, rfl, rfl, rfl, w1⟩ := open_int Tryd.underlying25 val1 h1
  obtain ⟨A2, cap2, cells2, xs2, el2, sp2, rfl, vw2, rp2, els2, ell2, mx2, sm2, ld2⟩ := arg_logs TL Tryd.underlying28 val2 h2 z2
  obtain ⟨a3, rfl, rfl, rfl, w3⟩ := open_int Tryd.underlying3 val3 h3
  obtain ⟨y1, hy1⟩ := wf_u64_in w1
  rw [hy1]
  have hb1 := BF.sum (fun x : Log => x.topics.length + x.data.length + 1) xs2 el2 ell2 (fun i x d hx hd => (ld2 i x d hx hd).bulk2 BF)
  have hb2 := BF.els els2
  simp only [Rows.uptoBulkAll] at bulk
  obtain ⟨q1, q2⟩ := bulk_logs (Nat.le_trans (Nat.le_trans hb1 hb2) (by omega) : _ ≤ 1048576)
  have hb5 : ∀ l : List Log, (l.map fun x => x.topics.length + 1).sum ≤ (l.map fun x => x.topics.length + x.data.length + 1).sum := fun l => by
    induction l with
    | nil => simp
    | cons x l ih => simp only [List.map_cons, List.sum_cons]; omega
  have hb4 : (logsT xs2).length ≤ (xs2.map fun x => x.topics.length + x.data.length + 1).sum := by
    rw [logsT_len]
    exact hb5 xs2
  have hfit : mkfit xs2 = true := by
    unfold mkfit
    rw [Bool.and_eq_true, List.all_eq_true]
    exact ⟨fun x hx => decide_eq_true (by have := q2 x hx; omega), decide_eq_true (by omega)⟩
  exact DoesG.law (waybilllaw17_ReceiptSpoilt_does W _ [] (fun _ m => m) a0 y1 A2 cap2 cells2 xs2 a3 true (wf_i64_in w0) vw2 rp2 (wf_i64_in w3) hg (spoilt17_law a0 y1 xs2 a3 (by omega) hfit (by omega))) (fun v G h => h)

theorem contract (H : Type) (enc : TypeId × Value → H) (W : World) (base : Nat) (args : Array Value) (ds gs : List (DataW H)) (before : List MemPlace)
    (hval0 : ∀ (j : Nat) t v, Tryd.f11.params[j]? = some t → args[j]? = some v → Value.okWide Tryd.prog W .any base t v)
    (hW : DataW.Whole enc Tryd.prog Tryd.f11.params.toList Rows.receiptSpoiltSpec.vars false W args.toList ds gs before)
    (hz : (DataW.weightsEach Tryd.prog (Tryd.f11.params.toList ++ (Rows.OpenSpec.upto Rows.receiptSpoiltSpec).bare.plain.varTypes Tryd.prog) (ds ++ gs)).all (· ≤ reachBytes) = true) (hk : Rows.uptoSmall H (ds ++ gs) = true) (hL : laidMetH Tryd.prog Rows.receiptSpoiltUptoRow.laid W) :
    Calls Tryd.prog 11 args W fun e W' => ∃ v, e = .returned v ∧ Rows.receiptSpoiltSpec.post enc Tryd.prog Tryd.f11 false true false false W args v W' := by
  have hval : ∀ (j : Nat) t v, Tryd.f11.params[j]? = some t → args[j]? = some v → Value.okWide Tryd.prog W .any base t v := hval0
  have hW' := hW
  obtain ⟨p, q, hA0, hV, rfl, hfz, hnd⟩ := hW
  have hA : DataW.TrodAll enc Tryd.prog W 0 (fun _ => true) true Tryd.f11.params.toList args.toList ds p := hA0
  rw [Tryd.params11] at hA hval hz
  obtain ⟨v0, vs0, d0, ds0, p0, q0, hargs, rfl, rfl, h0, r0⟩ := trodAll_cons hA
  obtain ⟨v1, vs1, d1, ds1, p1, q1, rfl, rfl, rfl, h1, r1⟩ := trodAll_cons r0
  obtain ⟨v2, vs2, d2, ds2, p2, q2, rfl, rfl, rfl, h2, r2⟩ := trodAll_cons r1
  obtain ⟨v3, vs3, d3, ds3, p3, q3, rfl, rfl, rfl, h3, r3⟩ := trodAll_cons r2
  obtain ⟨rfl, rfl, rfl⟩ := trodAll_nil r3
  obtain rfl : args = #[v0, v1, v2, v3] := by cases args; simp_all
  obtain ⟨rfl, rfl⟩ := trodVars_none hV
  have k0 := h0
  have lt0 : ∀ x ∈ p0, x.block < W.heap.size := by obtain ⟨m, hm⟩ := k0; exact DataW.trod_lt m _ _ _ hm
  have k1 := h1
  have lt1 : ∀ x ∈ p1, x.block < W.heap.size := by obtain ⟨m, hm⟩ := k1; exact DataW.trod_lt m _ _ _ hm
  have k2 := h2
  have lt2 : ∀ x ∈ p2, x.block < W.heap.size := by obtain ⟨m, hm⟩ := k2; exact DataW.trod_lt m _ _ _ hm
  have k3 := h3
  have lt3 : ∀ x ∈ p3, x.block < W.heap.size := by obtain ⟨m, hm⟩ := k3; exact DataW.trod_lt m _ _ _ hm
  clear hA0 hval0
  have bulk : Rows.uptoBulkAll [d0, d1, d2, d3] ≤ 1048576 := by
    have h := of_decide_eq_true hk
    rwa [List.append_nil] at h
  refine (walk (H := H) (enc := enc) W base v0 d0 p0 (hval 0 3 v0 rfl rfl) h0 (Fits.of_each hz (j := 0) rfl rfl) v1 d1 p1 (hval 1 25 v1 rfl rfl) h1 (Fits.of_each hz (j := 1) rfl rfl) v2 d2 p2 (hval 2 28 v2 rfl rfl) h2 (Fits.of_each hz (j := 2) rfl rfl) v3 d3 p3 (hval 3 3 v3 rfl rfl) h3 (Fits.of_each hz (j := 3) rfl rfl) bulk hL).mono fun e W' ⟨he, bel⟩ => ?_
  subst he
  exact ⟨_, rfl, _, _, _, [], _, [], hW', trodAll_mk1 (shut_bool Tryd.underlying4 _), (trodAll_cons_mk (Below.trod laidOut (by kernel_rfl) (of_decide_eq_true (by kernel_rfl)) k0 bel lt0) (trodAll_cons_mk (Below.trod laidOut (by kernel_rfl) (of_decide_eq_true (by kernel_rfl)) k1 bel lt1) (trodAll_cons_mk (Below.trod laidOut (by kernel_rfl) (of_decide_eq_true (by kernel_rfl)) k2 bel lt2) (trodAll_cons_mk (Below.trod laidOut (by kernel_rfl) (of_decide_eq_true (by kernel_rfl)) k3 bel lt3) trodAll_mk0)))), rfl, bel.frame _, fun h => by cases h⟩

noncomputable def w0 (os : Os) : World := { World.holding Tryd.prog os ⟨#[], #[], []⟩ with heap := ((World.holding Tryd.prog os ⟨#[], #[], []⟩).heap.modify (Tryd.prog.globalNamed "waybill/keccak.first" |>.getD 0) fun | .cells _ t fr => .cells #[.int .u8 1, .int .u8 6] t fr | o => o) }
theorem laid_met (os : Os) : laidMet Tryd.prog Rows.receiptSpoiltUptoRow.laid ((w0 os).forCall (fun _ _ => 0) ⟨#[], #[.int .i64 0, .int .u64 0, .slice none 0 0, .int .i64 0], []⟩).memory :=
  laidMet_of_run' 8 (by kernel_rfl) (by kernel_rfl)
theorem reads0 (os : Os) {H : Type} (enc : TypeId × Value → H) : ∃ places, DataW.whole enc Tryd.prog ((w0 os).forCall (fun _ _ => 0) ⟨#[], #[.int .i64 0, .int .u64 0, .slice none 0 0, .int .i64 0], []⟩).memory Tryd.f11.params.toList Rows.receiptSpoiltSpec.vars false (Array.toList #[.int .i64 0, .int .u64 0, .slice none 0 0, .int .i64 0]) 8 = some ([.lit (.int .i64 0), .lit (.int .u64 0), .nil, .lit (.int .i64 0)], [], places) :=
  ⟨[], by kernel_rfl⟩

theorem lifted (os : Os) (started : os.Started) (H : Type) (enc : TypeId × Value → H) (F : Stop.Interp) :
    ReturnsInHanded {} Tryd.checked os 11 .any ((Rows.OpenSpec.upto Rows.receiptSpoiltSpec).preRow enc Tryd.prog Tryd.f11 Rows.receiptSpoiltUptoRow.domain false Rows.receiptSpoiltUptoRow.laid) (((Rows.OpenSpec.upto Rows.receiptSpoiltSpec).at F).post enc Tryd.prog Tryd.f11 false true false false) := by
  obtain ⟨places, hx⟩ := reads0 os enc
  refine returnsInHanded_of_row (C := Tryd.checked) (s := (Rows.OpenSpec.upto Rows.receiptSpoiltSpec)) own started (by kernel_rfl) Tryd.func11
    (witness_row_at (enc := enc) (C := Tryd.checked) false (w0 os) #[.int .i64 0, .int .u64 0, .slice none 0 0, .int .i64 0] rfl (by kernel_rfl) (by kernel_rfl) (by kernel_rfl)
      (OpenSpec.preRow_of_cond 8 hx (by kernel_rfl) (fun k hk => by cases hk; kernel_rfl) (by kernel_rfl) (laid_met os))) ?_
  intro W base args ds gs before hval hW _ hcond hz hL _ _
  exact contract H enc W base args ds gs before hval hW hz (hcond _ rfl) hL

theorem said : Rows.ReceiptSpoiltUptoSaid :=
  OpenClaim.holds_of_cond 11 Tryd.f11 rfl rfl rfl rfl rfl rfl rfl ⟨rfl, rfl, rfl, rfl, rfl⟩ rfl rfl rfl rfl rfl (by kernel_rfl) Tryd.func11 (by kernel_rfl)
    (of_decide_eq_true (by kernel_rfl)) (by unfold Func.isWrapper; first | (rw [if_pos (by decide +kernel)]; kernel_rfl) | (rw [if_neg (by decide +kernel)]; exact ⟨rfl, rfl⟩))
    (fun os started H enc _ F => by rw [OpenClaim.pre_eq_preRow]; exact lifted os started H enc F)

theorem plain (f : FuncId) (fn : Func) (hf : Tryd.pinned.checked.prog.funcNamed "waybill/waybilllaw17.ReceiptSpoilt" = some f) (hfn : Tryd.pinned.checked.prog.funcs[f]? = some fn) :
    false = Tryd.pinned.checked.prog.looks [] ∧ ∀ (j : Nat) t, fn.params[j]? = some t → Tryd.pinned.checked.prog.wantsStandIn t = false := by
  obtain rfl : f = 11 := Option.some.inj ((show Tryd.prog.funcNamed "waybill/waybilllaw17.ReceiptSpoilt" = some 11 by kernel_rfl).symm.trans hf) |>.symm
  obtain rfl : fn = Tryd.f11 := (Option.some.inj (Tryd.func11.symm.trans hfn)).symm
  refine ⟨by kernel_rfl, fun j t ht => ?_⟩
  rw [Tryd.params11] at ht
  have hm := Array.mem_of_getElem? ht
  simp only [List.mem_toArray, List.mem_cons, List.not_mem_nil, or_false] at hm
  rcases hm with rfl | rfl | rfl | rfl
  · exact (show Tryd.prog.wantsStandIn 3 = false by kernel_rfl)
  · exact (show Tryd.prog.wantsStandIn 25 = false by kernel_rfl)
  · exact (show Tryd.prog.wantsStandIn 28 = false by kernel_rfl)
  · exact (show Tryd.prog.wantsStandIn 3 = false by kernel_rfl)
theorem proved : Rows.ReceiptSpoiltUptoCardSaid :=
  Claim7.holds_tied_plain_at .later [] _ _ _ _ said (fun _ h => by cases h) (by kernel_rfl) (fun _ h => by cases h) receiptSpoiltUpto_row_tie rfl ⟨rfl, rfl⟩ (by kernel_rfl) rfl plain (by kernel_rfl)
#print axioms proved
end Go.Proofs.YtojnakdlnlcmiaaDoor.receiptSpoilt
