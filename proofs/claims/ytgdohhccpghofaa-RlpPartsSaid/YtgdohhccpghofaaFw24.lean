/- Part of a proof over Ytgdohhccpghofaa: rules and contracts that the law's text uses. No condition. -/
import Derived.Test.YtgdohhccpghofaaFw23
namespace Go.Fw
open Go Go.RowKit
set_option linter.unusedVariables false
set_option linter.unusedSectionVars false
/-! Slices of arrays that lie in a block of one's own. -/
section
variable {P : Program} [Types P] {w0 : World} {L : Slots} {M : List Ent} {t e : TypeId} {x y z : Operand} {idx idx' : Int} {k k' : IntKind}
theorem RV.arr_lo {A : Addr} {n s : Nat} (a : Nat) (hx : ev L x = some (.pointer (some A))) (hy : ev L y = some (.int k idx)) (hj : idx = (a : Int)) (ht : tyU P t = some (.array n e)) (hs : tyS P e = some s) (h1 : idx ≤ n) :
    RV P w0 L M (.slice t x (some y) none none) (.slice (subA (some A) n a s) (n - a) (n - a)) := fun ρ w hρ m o ho => by
  subst hj
  have h2 : a ≤ n := by omega
  by_cases hc : n = a
  · subst hc; simp [execOp, ho, hρ x _ hx, hρ y _ hy, Instr.sliceAt, Instr.slice, Instr.sliceBounds, sliceBound_run w h2, tyU_run ht, tyS_run hs, subA, Instr.sureAddr, asAddr]
  simp [execOp, ho, hρ x _ hx, hρ y _ hy, Instr.sliceAt, Instr.slice, Instr.sliceBounds, sliceBound_run w h2, tyU_run ht, tyS_run hs, subA, Instr.sureAddr, asAddr, hc]
theorem RV.arr_hi {A : Addr} {n s : Nat} (h : Nat) (hx : ev L x = some (.pointer (some A))) (hy : ev L y = some (.int k idx)) (hj : idx = (h : Int)) (ht : tyU P t = some (.array n e)) (hs : tyS P e = some s) (h1 : idx ≤ n) :
    RV P w0 L M (.slice t x none (some y) none) (.slice (some A) h n) := fun ρ w hρ m o ho => by
  subst hj
  have h2 : h ≤ n := by omega
  by_cases hc : n = 0
  · subst hc
    simp [execOp, ho, hρ x _ hx, hρ y _ hy, Instr.sliceAt, Instr.slice, Instr.sliceBounds, sliceBound_run w h2, tyU_run ht, tyS_run hs, Instr.sureAddr, asAddr]
  · simp [execOp, ho, hρ x _ hx, hρ y _ hy, Instr.sliceAt, Instr.slice, Instr.sliceBounds, sliceBound_run w h2, tyU_run ht, tyS_run hs, Instr.sureAddr, asAddr, hc, Addr.add]
theorem RV.arr_all {A : Addr} {n s : Nat} (hx : ev L x = some (.pointer (some A))) (ht : tyU P t = some (.array n e)) (hs : tyS P e = some s) :
    RV P w0 L M (.slice t x none none none) (.slice (some A) n n) := fun ρ w hρ m o ho => by
  by_cases hc : n = 0
  · subst hc
    simp [execOp, ho, hρ x _ hx, Instr.sliceAt, Instr.slice, Instr.sliceBounds, tyU_run ht, tyS_run hs, Instr.sureAddr, asAddr]
  · simp [execOp, ho, hρ x _ hx, Instr.sliceAt, Instr.slice, Instr.sliceBounds, tyU_run ht, tyS_run hs, Instr.sureAddr, asAddr, hc, Addr.add]
end
theorem View.arr {α : Type} {w0 : World} {Ψ : Ctx} {b n : Nat} {f : α → Value} {v : Vector α n} {te : TypeId} (hΨ : ∀ w, Ψ w → Mem w0 w [(some b, blk (v.toList.map f) te)]) (hn : n ≤ 140737488355328) : View Ψ (some ⟨b, 0, none⟩) v.toList.length n 1 (v.toList.map f) :=
  ⟨fun w q => by
    have := (hΨ w q).rdl (List.mem_cons_self ..) (fun e => by cases e)
    simpa using this, fun _ => rfl, by simp, by simp, by simpa using hn⟩
end Go.Fw
