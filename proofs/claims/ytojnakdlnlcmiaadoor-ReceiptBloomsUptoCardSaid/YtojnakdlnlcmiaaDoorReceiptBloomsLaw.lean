/- the bloom of logs has each address and topic of each log and what a filter finds, and hangs neither on the order of the logs nor on their data -/
import Derived.Test.YtojnakdlnlcmiaaDoorRows
import Derived.Test.YtojnakdlnlcmiaaDoorCards
import Derived.Test.YtojnakdlnlcmiaaDoorTie
import Derived.WalkKit
import Derived.ProofKit
import Derived.OpenShut
import Derived.ShutString
import Derived.ChangeOld
import Derived.ChangeMaps5
import Derived.Below
import Derived.Deep.DeepHandedRow
import Derived.Lib.LaidTab
import Derived.Test.YtojnakdlnlcmiaaDoorReceiptBloomsW1
import Derived.Test.YtojnakdlnlcmiaaDoorOpnLg
import Derived.Test.YtojnakdlnlcmiaaDoorRecQ1
namespace Go.Proofs.YtojnakdlnlcmiaaDoor.receiptBlooms
open Go.ChangeShapes Go.WideShapes Go.ChangeAt Go.RowKit Go.Fw Go.Fw.Tryd
set_option linter.unusedVariables false
set_option maxRecDepth 100000

theorem own : ownKnob Tryd.prog.godebug = none := by kernel_rfl
theorem laidOut : laidOutB Tryd.prog = true := by kernel_rfl

theorem walk {H : Type} {enc : TypeId × Value → H} (W : World) (base : Nat) (v0 : Value) (d0 : DataW H) (p0 : List MemPlace) (val0 : Value.okWide Tryd.prog W .any base 28 v0) (h0 : DataW.Trod enc Tryd.prog W 0 (fun _ => true) true 28 v0 d0 p0) (z0 : Fits Tryd.prog 28 d0) (v1 : Value) (d1 : DataW H) (p1 : List MemPlace) (val1 : Value.okWide Tryd.prog W .any base 60 v1) (h1 : DataW.Trod enc Tryd.prog W 0 (fun _ => true) true 60 v1 d1 p1) (z1 : Fits Tryd.prog 60 d1) (v2 : Value) (d2 : DataW H) (p2 : List MemPlace) (val2 : Value.okWide Tryd.prog W .any base 24 v2) (h2 : DataW.Trod enc Tryd.prog W 0 (fun _ => true) true 24 v2 d2 p2) (z2 : Fits Tryd.prog 24 d2) (bulk : Rows.uptoBulkAll [d0, d1, d2] ≤ 1048576) (hL : laidMetH Tryd.prog Rows.receiptBloomsUptoRow.laid W) :
    Calls Tryd.prog 6 #[v0, v1, v2] W fun e W' => e = .returned (.bool true) ∧ Below W.heap.size W W' := by
  have TL : LogTypes Tryd.prog 63 60 45 24 61 5 := { fs := _, f0 := _, f1 := _, f2 := _, hL := Tryd.underlying63, h0 := rfl, h1 := rfl, h2 := rfl, o0 := rfl, o1 := rfl, o2 := rfl, y0 := rfl, y1 := rfl, y2 := rfl, uA := Tryd.underlying60, uS := Tryd.underlying45, uH := Tryd.underlying24, uB := Tryd.underlying61, u8 := Tryd.underlying5, cA := by kernel_rfl, cS := by kernel_rfl, cH := by kernel_rfl, cB := by kernel_rfl, c8 := by kernel_rfl, cL := by kernel_rfl, b8 := by kernel_rfl, bH := by kernel_rfl, bL := by kernel_rfl }
  obtain ⟨A0, cap0, cells0, xs0, el0, sp0, rfl, vw0, rp0, els0, ell0, mx0, sm0, ld0⟩ := arg_logs TL Tryd.underlying28 val0 h0 z0
  obtain ⟨xs1, rfl, len1⟩ := arg_arr8 Tryd.underlying60 Tryd.underlying5 (by kernel_rfl) (by kernel_rfl) val1 h1
  obtain ⟨xs2, rfl, len2⟩ := arg_arr8 Tryd.underlying24 Tryd.underlying5 (by kernel_rfl) (by kernel_rfl) val2 h2
  have hT : ∀ i, i < 2 → W.cell? ⟨2, i, none⟩ = some (.int .u8 (([1, 6] : List Int).getD i 0)) := fun i hi => laid_tab (name := "waybill/keccak.first") (zs := [1, 6]) hL (by kernel_rfl) (by kernel_rfl) (by kernel_rfl) (by kernel_rfl) Tryd.underlying198 Tryd.underlying5 (by kernel_rfl) (by kernel_rfl) i hi
  have hg : View (fun w => Mem W w []) (some ⟨2, 0, none⟩) 2 2 1 (u8s firstL) := View.of_rd ⟨fun _ => rfl, fun j u h => by
    have hj : j < 2 := (List.getElem?_eq_some_iff.1 h).1
    show W.cell? ((⟨2, 0, none⟩ : Addr).add j) = some u
    rw [Addr.add_none, Nat.zero_add, hT j hj]
    rcases (by omega : j = 0 ∨ j = 1) with rfl | rfl
    · exact h
    · exact h⟩ rfl (by omega) (by omega)
  obtain ⟨x1, rfl⟩ : ∃ x : Vector (BitVec 8) 20, xs1 = x.toList := ⟨⟨xs1.toArray, by simpa using len1⟩, rfl⟩
  obtain ⟨x2, rfl⟩ : ∃ x : Vector (BitVec 8) 32, xs2 = x.toList := ⟨⟨xs2.toArray, by simpa using len2⟩, rfl⟩
  have hp : ∀ d : DataW H, 1 ≤ Rows.uptoBulk d := fun d => by cases d with
    | lit l => cases l <;> simp [Rows.uptoBulk]
    | _ => simp [Rows.uptoBulk]
  have BF : BulkFn (H := H) Rows.uptoBulk Rows.uptoBulkAll := ⟨by simp [Rows.uptoBulkAll], fun d r => by simp [Rows.uptoBulkAll], fun el sp => by simp [Rows.uptoBulk], fun l => by simp [Rows.uptoBulk], hp⟩
  have hb1 := BF.sum (fun x : Log => x.topics.length + 1) xs0 el0 ell0 (fun i x d hx hd => (ld0 i x d hx hd).bulk BF)
  have hb2 := BF.els els0
  have hb3 : Rows.uptoBulkAll [d0, d1, d2] = Rows.uptoBulk d0 + (Rows.uptoBulk d1 + Rows.uptoBulk d2) := by simp [Rows.uptoBulkAll]
  rw [← logsT_len] at hb1
  exact DoesG.law (waybilllaw17_ReceiptBlooms_does W _ [] (fun _ m => m) A0 cap0 cells0 xs0 x1 x2 true vw0 rp0 hg (blooms_law xs0 x1 x2 (by omega) (by omega))) (fun v G h => h)

theorem contract (H : Type) (enc : TypeId × Value → H) (W : World) (base : Nat) (args : Array Value) (ds gs : List (DataW H)) (before : List MemPlace)
    (hval0 : ∀ (j : Nat) t v, Tryd.f6.params[j]? = some t → args[j]? = some v → Value.okWide Tryd.prog W .any base t v)
    (hW : DataW.Whole enc Tryd.prog Tryd.f6.params.toList Rows.receiptBloomsSpec.vars false W args.toList ds gs before)
    (hz : (DataW.weightsEach Tryd.prog (Tryd.f6.params.toList ++ (Rows.OpenSpec.upto Rows.receiptBloomsSpec).bare.plain.varTypes Tryd.prog) (ds ++ gs)).all (· ≤ reachBytes) = true) (hk : Rows.uptoSmall H (ds ++ gs) = true) (hL : laidMetH Tryd.prog Rows.receiptBloomsUptoRow.laid W) :
    Calls Tryd.prog 6 args W fun e W' => ∃ v, e = .returned v ∧ Rows.receiptBloomsSpec.post enc Tryd.prog Tryd.f6 false true false false W args v W' := by
  have hval : ∀ (j : Nat) t v, Tryd.f6.params[j]? = some t → args[j]? = some v → Value.okWide Tryd.prog W .any base t v := hval0
  have hW' := hW
  obtain ⟨p, q, hA0, hV, rfl, hfz, hnd⟩ := hW
  have hA : DataW.TrodAll enc Tryd.prog W 0 (fun _ => true) true Tryd.f6.params.toList args.toList ds p := hA0
  rw [Tryd.params6] at hA hval hz
  obtain ⟨v0, vs0, d0, ds0, p0, q0, hargs, rfl, rfl, h0, r0⟩ := trodAll_cons hA
  obtain ⟨v1, vs1, d1, ds1, p1, q1, rfl, rfl, rfl, h1, r1⟩ := trodAll_cons r0
  obtain ⟨v2, vs2, d2, ds2, p2, q2, rfl, rfl, rfl, h2, r2⟩ := trodAll_cons r1
  obtain ⟨rfl, rfl, rfl⟩ := trodAll_nil r2
  obtain rfl : args = #[v0, v1, v2] := by cases args; simp_all
  obtain ⟨rfl, rfl⟩ := trodVars_none hV
  have k0 := h0
  have lt0 : ∀ x ∈ p0, x.block < W.heap.size := by obtain ⟨m, hm⟩ := k0; exact DataW.trod_lt m _ _ _ hm
  have k1 := h1
  have lt1 : ∀ x ∈ p1, x.block < W.heap.size := by obtain ⟨m, hm⟩ := k1; exact DataW.trod_lt m _ _ _ hm
  have k2 := h2
  have lt2 : ∀ x ∈ p2, x.block < W.heap.size := by obtain ⟨m, hm⟩ := k2; exact DataW.trod_lt m _ _ _ hm
  clear hA0 hval0
  have bulk : Rows.uptoBulkAll [d0, d1, d2] ≤ 1048576 := by
    have h := of_decide_eq_true hk
    rwa [List.append_nil] at h
  refine (walk (H := H) (enc := enc) W base v0 d0 p0 (hval 0 28 v0 rfl rfl) h0 (Fits.of_each hz (j := 0) rfl rfl) v1 d1 p1 (hval 1 60 v1 rfl rfl) h1 (Fits.of_each hz (j := 1) rfl rfl) v2 d2 p2 (hval 2 24 v2 rfl rfl) h2 (Fits.of_each hz (j := 2) rfl rfl) bulk hL).mono fun e W' ⟨he, bel⟩ => ?_
  subst he
  exact ⟨_, rfl, _, _, _, [], _, [], hW', trodAll_mk1 (shut_bool Tryd.underlying4 _), (trodAll_cons_mk (Below.trod laidOut (by kernel_rfl) (of_decide_eq_true (by kernel_rfl)) k0 bel lt0) (trodAll_cons_mk (Below.trod laidOut (by kernel_rfl) (of_decide_eq_true (by kernel_rfl)) k1 bel lt1) (trodAll_cons_mk (Below.trod laidOut (by kernel_rfl) (of_decide_eq_true (by kernel_rfl)) k2 bel lt2) trodAll_mk0))), rfl, bel.frame _, fun h => by cases h⟩

noncomputable def w0 (os : Os) : World := { World.holding Tryd.prog os ⟨#[], #[], []⟩ with heap := ((World.holding Tryd.prog os ⟨#[], #[], []⟩).heap.modify (Tryd.prog.globalNamed "waybill/keccak.first" |>.getD 0) fun | .cells _ t fr => .cells #[.int .u8 1, .int .u8 6] t fr | o => o) }
theorem laid_met (os : Os) : laidMet Tryd.prog Rows.receiptBloomsUptoRow.laid ((w0 os).forCall (fun _ _ => 0) ⟨#[], #[.slice none 0 0, .agg ((List.replicate 20 (.int .u8 0) : List (Value))).toArray, .agg ((List.replicate 32 (.int .u8 0) : List (Value))).toArray], []⟩).memory :=
  laidMet_of_run' 8 (by kernel_rfl) (by kernel_rfl)
theorem reads0 (os : Os) {H : Type} (enc : TypeId × Value → H) : ∃ places, DataW.whole enc Tryd.prog ((w0 os).forCall (fun _ _ => 0) ⟨#[], #[.slice none 0 0, .agg ((List.replicate 20 (.int .u8 0) : List (Value))).toArray, .agg ((List.replicate 32 (.int .u8 0) : List (Value))).toArray], []⟩).memory Tryd.f6.params.toList Rows.receiptBloomsSpec.vars false (Array.toList #[.slice none 0 0, .agg ((List.replicate 20 (.int .u8 0) : List (Value))).toArray, .agg ((List.replicate 32 (.int .u8 0) : List (Value))).toArray]) 8 = some ([.nil, .agg ((List.replicate 20 (.lit (.int .u8 0)) : List (DataW H))), .agg ((List.replicate 32 (.lit (.int .u8 0)) : List (DataW H)))], [], places) :=
  ⟨[], by kernel_rfl⟩

theorem lifted (os : Os) (started : os.Started) (H : Type) (enc : TypeId × Value → H) (F : Stop.Interp) :
    ReturnsInHanded {} Tryd.checked os 6 .any ((Rows.OpenSpec.upto Rows.receiptBloomsSpec).preRow enc Tryd.prog Tryd.f6 Rows.receiptBloomsUptoRow.domain false Rows.receiptBloomsUptoRow.laid) (((Rows.OpenSpec.upto Rows.receiptBloomsSpec).at F).post enc Tryd.prog Tryd.f6 false true false false) := by
  obtain ⟨places, hx⟩ := reads0 os enc
  refine returnsInHanded_of_row (C := Tryd.checked) (s := (Rows.OpenSpec.upto Rows.receiptBloomsSpec)) own started (by kernel_rfl) Tryd.func6
    (witness_row_at (enc := enc) (C := Tryd.checked) false (w0 os) #[.slice none 0 0, .agg ((List.replicate 20 (.int .u8 0) : List (Value))).toArray, .agg ((List.replicate 32 (.int .u8 0) : List (Value))).toArray] rfl (by kernel_rfl) (by kernel_rfl) (by kernel_rfl)
      (OpenSpec.preRow_of_cond 8 hx (by kernel_rfl) (fun k hk => by cases hk; kernel_rfl) (by kernel_rfl) (laid_met os))) ?_
  intro W base args ds gs before hval hW _ hcond hz hL _ _
  exact contract H enc W base args ds gs before hval hW hz (hcond _ rfl) hL

theorem said : Rows.ReceiptBloomsUptoSaid :=
  OpenClaim.holds_of_cond 6 Tryd.f6 rfl rfl rfl rfl rfl rfl rfl ⟨rfl, rfl, rfl, rfl, rfl⟩ rfl rfl rfl rfl rfl (by kernel_rfl) Tryd.func6 (by kernel_rfl)
    (of_decide_eq_true (by kernel_rfl)) (by unfold Func.isWrapper; first | (rw [if_pos (by decide +kernel)]; kernel_rfl) | (rw [if_neg (by decide +kernel)]; exact ⟨rfl, rfl⟩))
    (fun os started H enc _ F => by rw [OpenClaim.pre_eq_preRow]; exact lifted os started H enc F)

theorem plain (f : FuncId) (fn : Func) (hf : Tryd.pinned.checked.prog.funcNamed "waybill/waybilllaw17.ReceiptBlooms" = some f) (hfn : Tryd.pinned.checked.prog.funcs[f]? = some fn) :
    false = Tryd.pinned.checked.prog.looks [] ∧ ∀ (j : Nat) t, fn.params[j]? = some t → Tryd.pinned.checked.prog.wantsStandIn t = false := by
  obtain rfl : f = 6 := Option.some.inj ((show Tryd.prog.funcNamed "waybill/waybilllaw17.ReceiptBlooms" = some 6 by kernel_rfl).symm.trans hf) |>.symm
  obtain rfl : fn = Tryd.f6 := (Option.some.inj (Tryd.func6.symm.trans hfn)).symm
  refine ⟨by kernel_rfl, fun j t ht => ?_⟩
  rw [Tryd.params6] at ht
  have hm := Array.mem_of_getElem? ht
  simp only [List.mem_toArray, List.mem_cons, List.not_mem_nil, or_false] at hm
  rcases hm with rfl | rfl | rfl
  · exact (show Tryd.prog.wantsStandIn 28 = false by kernel_rfl)
  · exact (show Tryd.prog.wantsStandIn 60 = false by kernel_rfl)
  · exact (show Tryd.prog.wantsStandIn 24 = false by kernel_rfl)
theorem proved : Rows.ReceiptBloomsUptoCardSaid :=
  Claim7.holds_tied_plain_at .later [] _ _ _ _ said (fun _ h => by cases h) (by kernel_rfl) (fun _ h => by cases h) receiptBloomsUpto_row_tie rfl ⟨rfl, rfl⟩ (by kernel_rfl) rfl plain (by kernel_rfl)
#print axioms proved
end Go.Proofs.YtojnakdlnlcmiaaDoor.receiptBlooms
