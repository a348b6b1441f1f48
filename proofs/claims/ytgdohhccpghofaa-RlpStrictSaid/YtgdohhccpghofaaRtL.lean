/- Part of a proof over Ytgdohhccpghofaa: rules and contracts that the law's text uses. No condition. -/
import Derived.Test.YtgdohhccpghofaaRmL
namespace Go.Fw
set_option linter.unusedVariables false
/-- An item with marked room behind its text and one marked item behind its list. -/
def RtRd (Φ : Ctx) (cs : List Value) (x : It) : Prop := ∃ A B c cells, cs = [.bool x.list, .slice A x.data.length (x.data.length + 9), .slice B x.items.length c] ∧ Room Φ A x.data ∧ View Φ B (x.items ++ [(It.mk false ([164#8] : List (BitVec 8)) ([] : List (It)))]).length c 3 cells ∧ Reps (ItRd Φ) cells (x.items ++ [(It.mk false ([164#8] : List (BitVec 8)) ([] : List (It)))])
theorem RtRd.mono {Φ Ψ : Ctx} (hh : ∀ w, Ψ w → Φ w) (cs : List Value) (x : It) : RtRd Φ cs x → RtRd Ψ cs x := fun ⟨A, B, c, cells, h1, h2, h3, h4⟩ => ⟨A, B, c, cells, h1, h2.mono hh, h3.mono hh, h4.mono (ItRd.mono hh)⟩
theorem RtRd.opn {Φ : Ctx} {cs : List Value} {x : It} (h : RtRd Φ cs x) : ∃ A B c cells, cs = [.bool x.list, .slice A x.data.length (x.data.length + 9), .slice B x.items.length c] ∧ Room Φ A x.data ∧ View Φ B x.items.length c 3 (cells.take (x.items.length * 3)) ∧ Reps (ItRd Φ) (cells.take (x.items.length * 3)) x.items ∧ View Φ B (x.items ++ [(It.mk false ([164#8] : List (BitVec 8)) ([] : List (It)))]).length c 3 cells ∧ Reps (ItRd Φ) cells (x.items ++ [(It.mk false ([164#8] : List (BitVec 8)) ([] : List (It)))]) := by
  obtain ⟨A, B, c, cells, h1, h2, h3, h4⟩ := h
  have h5 := h4.take ItRd.len x.items.length
  rw [List.take_left] at h5
  have h6 := h3.hiD (k := x.items.length) (by simp)
  rw [List.take_left] at h6
  exact ⟨A, B, c, cells, h1, h2, h6, h5, h3, h4⟩
theorem RtRd.mk {Φ : Ctx} {A B : Option Addr} {l : Bool} {d : List (BitVec 8)} {c : Nat} {its big : List It} {cells : List Value} (h1 : Room Φ A d) (h2 : View Φ B big.length c 3 cells) (h3 : Reps (ItRd Φ) cells big) (e : big = its ++ [(It.mk false ([164#8] : List (BitVec 8)) ([] : List (It)))]) : RtRd Φ [.bool l, .slice A d.length (d.length + 9), .slice B its.length c] (.mk l d its) := by
  subst e
  exact ⟨A, B, c, cells, rfl, h1, h2, h3⟩
theorem RtRd.it {Φ : Ctx} {cs : List Value} {x : It} (h : RtRd Φ cs x) : ItRd Φ cs x := by
  obtain ⟨A, B, c, cells, h1, h2, h3, h4, _⟩ := h.opn
  subst h1
  cases x
  exact .mk h2.view h3 h4
end Go.Fw
