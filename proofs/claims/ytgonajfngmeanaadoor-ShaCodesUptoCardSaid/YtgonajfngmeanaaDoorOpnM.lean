/- Part of a proof: rules that its law uses. -/
import Derived.Test.YtgonajfngmeanaaDoorOpnL
namespace Go.Fw
open Go
set_option linter.unusedVariables false
theorem bulk_len {H : Type} (ub : DataW H → Nat) (uba : List (DataW H) → Nat) (h0 : uba [] = 0) (h1 : ∀ d r, uba (d :: r) = ub d + uba r) (h2 : ∀ el sp, ub (.slice el sp) = uba el + uba sp + 1) (hp : ∀ d : DataW H, 1 ≤ ub d)
    {d : DataW H} {el sp : List (DataW H)} (he : Els d el sp) : el.length ≤ ub d := by
  have hlen : ∀ l : List (DataW H), l.length ≤ uba l := fun l => by
    induction l with
    | nil => simp
    | cons x r ih => rw [h1]; have := hp x; simp; omega
  rcases he with ⟨_, rfl, _⟩ | rfl
  · simp
  · rw [h2]; have := hlen el; omega
end Go.Fw
