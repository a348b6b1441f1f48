/- Part of a proof: rules that its law uses. -/
import Derived.Test.YtgonajfngmeanaaDoorFwC
namespace Go.Fw
mutual
def It.sz : It → Nat
  | .mk _ _ its => 1 + Its.sz its
def Its.sz : List It → Nat
  | [] => 0
  | x :: xs => It.sz x + Its.sz xs
end
structure Hd where
  list : Bool
  fr : Nat
  to : Nat
def HdRd (Φ : Ctx) (cs : List Value) (h : Hd) : Prop := cs = [.bool h.list, .int .i64 ((h.fr : Nat) : Int), .int .i64 ((h.to : Nat) : Int)] ∧ h.fr ≤ 9223372036854775807 ∧ h.to ≤ 9223372036854775807
theorem HdRd.opn {Φ : Ctx} {cs : List Value} {h : Hd} (r : HdRd Φ cs h) : cs = [.bool h.list, .int .i64 ((h.fr : Nat) : Int), .int .i64 ((h.to : Nat) : Int)] ∧ h.fr ≤ 9223372036854775807 ∧ h.to ≤ 9223372036854775807 := r
theorem HdRd.mk {Φ : Ctx} {l : Bool} {f t : Nat} (h1 : f ≤ 9223372036854775807) (h2 : t ≤ 9223372036854775807) : HdRd Φ [.bool l, .int .i64 ((f : Nat) : Int), .int .i64 ((t : Nat) : Int)] ⟨l, f, t⟩ := ⟨rfl, h1, h2⟩
theorem HdRd.mono {Φ Ψ : Ctx} (hh : ∀ w, Ψ w → Φ w) (cs : List Value) (h : Hd) : HdRd Φ cs h → HdRd Ψ cs h := fun r => r
end Go.Fw
