/- BloomOf and Make of any logs answer as the document says; two answers alive at one time share nothing, and the logs stay as they were; where what the law reads is of bulk at most 1048576. -/
import Derived.Test.YtojnakdlnlcmiaaDoorRows
import Derived.Test.YtojnakdlnlcmiaaDoorCards
import Derived.Test.YtojnakdlnlcmiaaDoorTie
import Derived.WalkKit
import Derived.ProofKit
import Derived.OpenShut
import Derived.ShutString
import Derived.ChangeOld
import Derived.ChangeMaps5
import Derived.Below
import Derived.Deep.DeepHandedRow
import Derived.Lib.LaidTab
import Derived.Test.YtojnakdlnlcmiaaDoorT6
namespace Go.Proofs.YtojnakdlnlcmiaaDoor.receiptMakes
open Go.ChangeShapes Go.WideShapes Go.ChangeAt Go.RowKit Go.Fw Go.Fw.Tryd
set_option linter.unusedVariables false
set_option maxRecDepth 100000

theorem own : ownKnob Tryd.prog.godebug = none := by kernel_rfl
theorem laidOut : laidOutB Tryd.prog = true := by kernel_rfl

theorem walk {H : Type} {enc : TypeId × Value → H} (W : World) (base : Nat) (v0 : Value) (d0 : DataW H) (p0 : List MemPlace) (val0 : Value.okWide Tryd.prog W .any base 3 v0) (h0 : DataW.Trod enc Tryd.prog W 0 (fun _ => true) true 3 v0 d0 p0) (z0 : Fits Tryd.prog 3 d0) (v1 : Value) (d1 : DataW H) (p1 : List MemPlace) (val1 : Value.okWide Tryd.prog W .any base 25 v1) (h1 : DataW.Trod enc Tryd.prog W 0 (fun _ => true) true 25 v1 d1 p1) (z1 : Fits Tryd.prog 25 d1) (v2 : Value) (d2 : DataW H) (p2 : List MemPlace) (val2 : Value.okWide Tryd.prog W .any base 25 v2) (h2 : DataW.Trod enc Tryd.prog W 0 (fun _ => true) true 25 v2 d2 p2) (z2 : Fits Tryd.prog 25 d2) (v3 : Value) (d3 : DataW H) (p3 : List MemPlace) (val3 : Value.okWide Tryd.prog W .any base 28 v3) (h3 : DataW.Trod enc Tryd.prog W 0 (fun _ => true) true 28 v3 d3 p3) (z3 : Fits Tryd.prog 28 d3) (bulk : Rows.uptoBulkAll [d0, d1, d2, d3] ≤ 1048576) (hL : laidMetH Tryd.prog Rows.receiptMakesUptoRow.laid W) :
    Calls Tryd.prog 5 #[v0, v1, v2, v3] W fun e W' => e = .returned (.bool true) ∧ Below W.heap.size W W' := by
  have TL : LogTypes Tryd.prog 63 60 45 24 61 5 := { fs := _, f0 := _, f1 := _, f2 := _, hL := Tryd.underlying63, h0 := rfl, h1 := rfl, h2 := rfl, o0 := rfl, o1 := rfl, o2 := rfl, y0 := rfl, y1 := rfl, y2 := rfl, uA := Tryd.underlying60, uS := Tryd.underlying45, uH := Tryd.underlying24, uB := Tryd.underlying61, u8 := Tryd.underlying5, cA := by kernel_rfl, cS := by kernel_rfl, cH := by kernel_rfl, cB := by kernel_rfl, c8 := by kernel_rfl, cL := by kernel_rfl, b8 := by kernel_rfl, bH := by kernel_rfl, bL := by kernel_rfl }
  have hT : ∀ i, i < 2 → W.cell? ⟨2, i, none⟩ = some (.int .u8 (([1, 6] : List Int).getD i 0)) := fun i hi => laid_tab (name := "waybill/keccak.first") (zs := [1, 6]) hL (by kernel_rfl) (by kernel_rfl) (by kernel_rfl) (by kernel_rfl) Tryd.underlying198 Tryd.underlying5 (by kernel_rfl) (by kernel_rfl) i hi
  have hg : View (fun w => Mem W w []) (some ⟨2, 0, none⟩) 2 2 1 (u8s firstL) := View.of_rd ⟨fun _ => rfl, fun j u h => by
    have hj : j < 2 := (List.getElem?_eq_some_iff.1 h).1
    show W.cell? ((⟨2, 0, none⟩ : Addr).add j) = some u
    rw [Addr.add_none, Nat.zero_add, hT j hj]
    rcases (by omega : j = 0 ∨ j = 1) with rfl | rfl
    · exact h
    · exact h⟩ rfl (by omega) (by omega)
  have hTn : ∀ i, i < 25 → W.cell? ⟨4, i, none⟩ = some (.int .i64 (turnsL.getD i 0)) := fun i hi => laid_tab (name := "waybill/waybillref02.turns") (zs := turnsL) hL (by kernel_rfl) (by kernel_rfl) (by kernel_rfl) (by kernel_rfl) Tryd.underlying206 Tryd.underlying3 (by kernel_rfl) (by kernel_rfl) i hi
  have hR := laid_u64 (name := "waybill/waybillref02.rounds") (K := roundsL) hL (by kernel_rfl) (by kernel_rfl) (g := 3) (by kernel_rfl) (by kernel_rfl) Tryd.underlying205 Tryd.underlying25 (by kernel_rfl) (by kernel_rfl)
  have hRn : ∀ i, i < 24 → W.cell? ⟨3, i, none⟩ = some (U64 (g64 roundsL i)) := fun i hi => by
    have := hR i _ (u64s_get (l := roundsL) hi)
    rwa [Addr.add_none, Nat.zero_add] at this
  have hp : ∀ d : DataW H, 1 ≤ Rows.uptoBulk d := fun d => by cases d with
    | lit l => cases l <;> simp [Rows.uptoBulk]
    | _ => simp [Rows.uptoBulk]
  have BF : BulkFn (H := H) Rows.uptoBulk Rows.uptoBulkAll := ⟨by simp [Rows.uptoBulkAll], fun d r => by simp [Rows.uptoBulkAll], fun el sp => by simp [Rows.uptoBulk], fun l => by simp [Rows.uptoBulk], hp⟩
  obtain ⟨a0, rfl, rfl, rfl, w0⟩ := open_int Tryd.underlying3 val0 h0
  obtain ⟨a1, rfl, rfl, rfl, w1⟩ := open_int Tryd.underlying25 val1 h1
  obtain ⟨a2, rfl, rfl, rfl, w2⟩ := open_int Tryd.underlying25 val2 h2
  obtain ⟨A2, cap2, cells2, xs2, el2, sp2, rfl, vw2, rp2, els2, ell2, mx2, sm2, ld2⟩ := arg_logs TL Tryd.underlying28 val3 h3 z3
  obtain ⟨y1, hy1⟩ := wf_u64_in w1
  rw [hy1]
  obtain ⟨y2, hy2⟩ := wf_u64_in w2
  rw [hy2]
  have hb1 := BF.sum (fun x : Log => x.topics.length + x.data.length + 1) xs2 el2 ell2 (fun i x d hx hd => (ld2 i x d hx hd).bulk2 BF)
  have hb2 := BF.els els2
  simp only [Rows.uptoBulkAll] at bulk
  obtain ⟨q1, q2⟩ := bulk_logs (Nat.le_trans (Nat.le_trans hb1 hb2) (by omega) : _ ≤ 1048576)
  have hb5 : ∀ l : List Log, (l.map fun x => x.topics.length + 1).sum ≤ (l.map fun x => x.topics.length + x.data.length + 1).sum := fun l => by
    induction l with
    | nil => simp
    | cons x l ih => simp only [List.map_cons, List.sum_cons]; omega
  have hb4 : (logsT xs2).length ≤ (xs2.map fun x => x.topics.length + x.data.length + 1).sum := by
    rw [logsT_len]
    exact hb5 xs2
  have hfit : twfit xs2 = true := by
    unfold twfit
    rw [Bool.and_eq_true, List.all_eq_true]
    exact ⟨fun x hx => decide_eq_true (by have := q2 x hx; omega), decide_eq_true (by omega)⟩
  obtain ⟨x, e, e2, b, t1, t2, t3, t4, t5, t6, t7, t8, t9, t10⟩ := rmakes_law a0 y1 y2 xs2 (by omega) hfit (by omega)
  exact DoesG.law (waybilllaw17_ReceiptMakes_does W _ [] (fun _ m => m) a0 y1 y2 A2 cap2 cells2 xs2 x e e2 b (wf_i64_in w0) vw2 rp2 hTn hRn hg t1 t2 t3 t4 t5 t6 t7 t8 t9 (fun y hy => by
    rcases t10 with t | t
    · rw [t] at hy; have := q2 y hy; omega
    · rw [t] at hy; cases hy)) (fun v G h => h)

theorem contract (H : Type) (enc : TypeId × Value → H) (W : World) (base : Nat) (args : Array Value) (ds gs : List (DataW H)) (before : List MemPlace)
    (hval0 : ∀ (j : Nat) t v, Tryd.f5.params[j]? = some t → args[j]? = some v → Value.okWide Tryd.prog W .any base t v)
    (hW : DataW.Whole enc Tryd.prog Tryd.f5.params.toList Rows.receiptMakesSpec.vars false W args.toList ds gs before)
    (hz : (DataW.weightsEach Tryd.prog (Tryd.f5.params.toList ++ (Rows.OpenSpec.upto Rows.receiptMakesSpec).bare.plain.varTypes Tryd.prog) (ds ++ gs)).all (· ≤ reachBytes) = true) (hk : Rows.uptoSmall H (ds ++ gs) = true) (hL : laidMetH Tryd.prog Rows.receiptMakesUptoRow.laid W) :
    Calls Tryd.prog 5 args W fun e W' => ∃ v, e = .returned v ∧ Rows.receiptMakesSpec.post enc Tryd.prog Tryd.f5 false true false false W args v W' := by
  have hval : ∀ (j : Nat) t v, Tryd.f5.params[j]? = some t → args[j]? = some v → Value.okWide Tryd.prog W .any base t v := hval0
  have hW' := hW
  obtain ⟨p, q, hA0, hV, rfl, hfz, hnd⟩ := hW
  have hA : DataW.TrodAll enc Tryd.prog W 0 (fun _ => true) true Tryd.f5.params.toList args.toList ds p := hA0
  rw [Tryd.params5] at hA hval hz
  obtain ⟨v0, vs0, d0, ds0, p0, q0, hargs, rfl, rfl, h0, r0⟩ := trodAll_cons hA
  obtain ⟨v1, vs1, d1, ds1, p1, q1, rfl, rfl, rfl, h1, r1⟩ := trodAll_cons r0
  obtain ⟨v2, vs2, d2, ds2, p2, q2, rfl, rfl, rfl, h2, r2⟩ := trodAll_cons r1
  obtain ⟨v3, vs3, d3, ds3, p3, q3, rfl, rfl, rfl, h3, r3⟩ := trodAll_cons r2
  obtain ⟨rfl, rfl, rfl⟩ := trodAll_nil r3
  obtain rfl : args = #[v0, v1, v2, v3] := by cases args; simp_all
  obtain ⟨rfl, rfl⟩ := trodVars_none hV
  have k0 := h0
  have lt0 : ∀ x ∈ p0, x.block < W.heap.size := by obtain ⟨m, hm⟩ := k0; exact DataW.trod_lt m _ _ _ hm
  have k1 := h1
  have lt1 : ∀ x ∈ p1, x.block < W.heap.size := by obtain ⟨m, hm⟩ := k1; exact DataW.trod_lt m _ _ _ hm
  have k2 := h2
  have lt2 : ∀ x ∈ p2, x.block < W.heap.size := by obtain ⟨m, hm⟩ := k2; exact DataW.trod_lt m _ _ _ hm
  have k3 := h3
  have lt3 : ∀ x ∈ p3, x.block < W.heap.size := by obtain ⟨m, hm⟩ := k3; exact DataW.trod_lt m _ _ _ hm
  clear hA0 hval0
  have bulk : Rows.uptoBulkAll [d0, d1, d2, d3] ≤ 1048576 := by
    have h := of_decide_eq_true hk
    rwa [List.append_nil] at h
  refine (walk (H := H) (enc := enc) W base v0 d0 p0 (hval 0 3 v0 rfl rfl) h0 (Fits.of_each hz (j := 0) rfl rfl) v1 d1 p1 (hval 1 25 v1 rfl rfl) h1 (Fits.of_each hz (j := 1) rfl rfl) v2 d2 p2 (hval 2 25 v2 rfl rfl) h2 (Fits.of_each hz (j := 2) rfl rfl) v3 d3 p3 (hval 3 28 v3 rfl rfl) h3 (Fits.of_each hz (j := 3) rfl rfl) bulk hL).mono fun e W' ⟨he, bel⟩ => ?_
  subst he
  exact ⟨_, rfl, _, _, _, [], _, [], hW', trodAll_mk1 (shut_bool Tryd.underlying4 _), (trodAll_cons_mk (Below.trod laidOut (by kernel_rfl) (of_decide_eq_true (by kernel_rfl)) k0 bel lt0) (trodAll_cons_mk (Below.trod laidOut (by kernel_rfl) (of_decide_eq_true (by kernel_rfl)) k1 bel lt1) (trodAll_cons_mk (Below.trod laidOut (by kernel_rfl) (of_decide_eq_true (by kernel_rfl)) k2 bel lt2) (trodAll_cons_mk (Below.trod laidOut (by kernel_rfl) (of_decide_eq_true (by kernel_rfl)) k3 bel lt3) trodAll_mk0)))), rfl, bel.frame _, fun h => by cases h⟩

noncomputable def w0 (os : Os) : World := { World.holding Tryd.prog os ⟨#[], #[], []⟩ with heap := ((((World.holding Tryd.prog os ⟨#[], #[], []⟩).heap.modify (Tryd.prog.globalNamed "waybill/keccak.first" |>.getD 0) fun | .cells _ t fr => .cells #[.int .u8 1, .int .u8 6] t fr | o => o).modify (Tryd.prog.globalNamed "waybill/waybillref02.rounds" |>.getD 0) fun | .cells _ t fr => .cells #[.int .u64 1, .int .u64 32898, .int .u64 9223372036854808714, .int .u64 9223372039002292224, .int .u64 32907, .int .u64 2147483649, .int .u64 9223372039002292353, .int .u64 9223372036854808585, .int .u64 138, .int .u64 136, .int .u64 2147516425, .int .u64 2147483658, .int .u64 2147516555, .int .u64 9223372036854775947, .int .u64 9223372036854808713, .int .u64 9223372036854808579, .int .u64 9223372036854808578, .int .u64 9223372036854775936, .int .u64 32778, .int .u64 9223372039002259466, .int .u64 9223372039002292353, .int .u64 9223372036854808704, .int .u64 2147483649, .int .u64 9223372039002292232] t fr | o => o).modify (Tryd.prog.globalNamed "waybill/waybillref02.turns" |>.getD 0) fun | .cells _ t fr => .cells #[.int .i64 0, .int .i64 1, .int .i64 62, .int .i64 28, .int .i64 27, .int .i64 36, .int .i64 44, .int .i64 6, .int .i64 55, .int .i64 20, .int .i64 3, .int .i64 10, .int .i64 43, .int .i64 25, .int .i64 39, .int .i64 41, .int .i64 45, .int .i64 15, .int .i64 21, .int .i64 8, .int .i64 18, .int .i64 2, .int .i64 61, .int .i64 56, .int .i64 14] t fr | o => o) }
theorem laid_met (os : Os) : laidMet Tryd.prog Rows.receiptMakesUptoRow.laid ((w0 os).forCall (fun _ _ => 0) ⟨#[], #[.int .i64 0, .int .u64 0, .int .u64 0, .slice none 0 0], []⟩).memory :=
  laidMet_of_run' 8 (by kernel_rfl) (by kernel_rfl)
theorem reads0 (os : Os) {H : Type} (enc : TypeId × Value → H) : ∃ places, DataW.whole enc Tryd.prog ((w0 os).forCall (fun _ _ => 0) ⟨#[], #[.int .i64 0, .int .u64 0, .int .u64 0, .slice none 0 0], []⟩).memory Tryd.f5.params.toList Rows.receiptMakesSpec.vars false (Array.toList #[.int .i64 0, .int .u64 0, .int .u64 0, .slice none 0 0]) 8 = some ([.lit (.int .i64 0), .lit (.int .u64 0), .lit (.int .u64 0), .nil], [], places) :=
  ⟨[], by kernel_rfl⟩

theorem lifted (os : Os) (started : os.Started) (H : Type) (enc : TypeId × Value → H) (F : Stop.Interp) :
    ReturnsInHanded {} Tryd.checked os 5 .any ((Rows.OpenSpec.upto Rows.receiptMakesSpec).preRow enc Tryd.prog Tryd.f5 Rows.receiptMakesUptoRow.domain false Rows.receiptMakesUptoRow.laid) (((Rows.OpenSpec.upto Rows.receiptMakesSpec).at F).post enc Tryd.prog Tryd.f5 false true false false) := by
  obtain ⟨places, hx⟩ := reads0 os enc
  refine returnsInHanded_of_row (C := Tryd.checked) (s := (Rows.OpenSpec.upto Rows.receiptMakesSpec)) own started (by kernel_rfl) Tryd.func5
    (witness_row_at (enc := enc) (C := Tryd.checked) false (w0 os) #[.int .i64 0, .int .u64 0, .int .u64 0, .slice none 0 0] rfl (by kernel_rfl) (by kernel_rfl) (by kernel_rfl)
      (OpenSpec.preRow_of_cond 8 hx (by kernel_rfl) (fun k hk => by cases hk; kernel_rfl) (by kernel_rfl) (laid_met os))) ?_
  intro W base args ds gs before hval hW _ hcond hz hL _ _
  exact contract H enc W base args ds gs before hval hW hz (hcond _ rfl) hL

theorem said : Rows.ReceiptMakesUptoSaid :=
  OpenClaim.holds_of_cond 5 Tryd.f5 rfl rfl rfl rfl rfl rfl rfl ⟨rfl, rfl, rfl, rfl, rfl⟩ rfl rfl rfl rfl rfl (by kernel_rfl) Tryd.func5 (by kernel_rfl)
    (of_decide_eq_true (by kernel_rfl)) (by unfold Func.isWrapper; first | (rw [if_pos (by decide +kernel)]; kernel_rfl) | (rw [if_neg (by decide +kernel)]; exact ⟨rfl, rfl⟩))
    (fun os started H enc _ F => by rw [OpenClaim.pre_eq_preRow]; exact lifted os started H enc F)

theorem plain (f : FuncId) (fn : Func) (hf : Tryd.pinned.checked.prog.funcNamed "waybill/waybilllaw17.ReceiptMakes" = some f) (hfn : Tryd.pinned.checked.prog.funcs[f]? = some fn) :
    false = Tryd.pinned.checked.prog.looks [] ∧ ∀ (j : Nat) t, fn.params[j]? = some t → Tryd.pinned.checked.prog.wantsStandIn t = false := by
  obtain rfl : f = 5 := Option.some.inj ((show Tryd.prog.funcNamed "waybill/waybilllaw17.ReceiptMakes" = some 5 by kernel_rfl).symm.trans hf) |>.symm
  obtain rfl : fn = Tryd.f5 := (Option.some.inj (Tryd.func5.symm.trans hfn)).symm
  refine ⟨by kernel_rfl, fun j t ht => ?_⟩
  rw [Tryd.params5] at ht
  have hm := Array.mem_of_getElem? ht
  simp only [List.mem_toArray, List.mem_cons, List.not_mem_nil, or_false] at hm
  rcases hm with rfl | rfl | rfl | rfl
  · exact (show Tryd.prog.wantsStandIn 3 = false by kernel_rfl)
  · exact (show Tryd.prog.wantsStandIn 25 = false by kernel_rfl)
  · exact (show Tryd.prog.wantsStandIn 25 = false by kernel_rfl)
  · exact (show Tryd.prog.wantsStandIn 28 = false by kernel_rfl)
theorem proved : Rows.ReceiptMakesUptoCardSaid :=
  Claim7.holds_tied_plain_at .later [] _ _ _ _ said (fun _ h => by cases h) (by kernel_rfl) (fun _ h => by cases h) receiptMakesUpto_row_tie rfl ⟨rfl, rfl⟩ (by kernel_rfl) rfl plain (by kernel_rfl)
#print axioms proved
end Go.Proofs.YtojnakdlnlcmiaaDoor.receiptMakes
