/- Part of a proof over Ytgdohhccpghofaa: rules and contracts that the law's text uses. No condition. -/
import Derived.Test.YtgdohhccpghofaaFw12
namespace Go.Fw
open Go Go.RowKit
set_option linter.unusedVariables false
/-! Pointers that are compared with nil. -/
section
variable {P : Program} [Types P] {w0 : World} {L : Slots} {M : List Ent} {t t' e : TypeId} {x y : Operand} {v : Value}
theorem run_equal_nil {w : World} (ht : tyU P t = some (.pointer e)) : (Op.equal t (.pointer none) (.pointer none)).run P w = .ok true w := by
  unfold Op.equal
  have : Op.maxDepth = (Op.maxDepth - 1) + 1 := by decide
  rw [this]
  simp only [Op.equalIn, Sem.run_bind, tyU_run ht, Result.andThen_ok]
  rfl
theorem run_equal_some {w : World} {a : Addr} (ht : tyU P t = some (.pointer e)) : (Op.equal t (.pointer (some a)) (.pointer none)).run P w = .ok false w := by
  unfold Op.equal
  have : Op.maxDepth = (Op.maxDepth - 1) + 1 := by decide
  rw [this]
  simp only [Op.equalIn, Sem.run_bind, tyU_run ht, Result.andThen_ok]
  rfl
theorem RV.eqlN (hx : ev L x = some (.pointer none)) (hy : ev L y = some (.pointer none)) (ht : tyU P t = some (.pointer e)) : RV P w0 L M (.binOp .eql t x y t') (.bool true) := fun ρ w hρ _ o ho => by
  simp [execOp, ho, hρ x _ hx, hρ y _ hy, eqGuard, binOp, run_equal_nil ht]
theorem RV.neqN (hx : ev L x = some (.pointer none)) (hy : ev L y = some (.pointer none)) (ht : tyU P t = some (.pointer e)) : RV P w0 L M (.binOp .neq t x y t') (.bool false) := fun ρ w hρ _ o ho => by
  simp [execOp, ho, hρ x _ hx, hρ y _ hy, eqGuard, binOp, run_equal_nil ht]
theorem RV.eqlS {a : Addr} (hx : ev L x = some (.pointer (some a))) (hy : ev L y = some (.pointer none)) (ht : tyU P t = some (.pointer e)) : RV P w0 L M (.binOp .eql t x y t') (.bool false) := fun ρ w hρ _ o ho => by
  simp [execOp, ho, hρ x _ hx, hρ y _ hy, eqGuard, binOp, run_equal_some ht]
theorem RV.neqS {a : Addr} (hx : ev L x = some (.pointer (some a))) (hy : ev L y = some (.pointer none)) (ht : tyU P t = some (.pointer e)) : RV P w0 L M (.binOp .neq t x y t') (.bool true) := fun ρ w hρ _ o ho => by
  simp [execOp, ho, hρ x _ hx, hρ y _ hy, eqGuard, binOp, run_equal_some ht]
omit [Types P] in
theorem RV.nilCheck {a : Addr} (hx : ev L x = some (.pointer (some a))) : RV P w0 L M (.nilCheck x) (.pointer (some a)) := fun ρ w hρ _ o ho => by
  simp [execOp, ho, hρ x _ hx]
end
end Go.Fw
