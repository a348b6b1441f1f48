/- Part of a proof: rules that its law uses. -/
import Derived.Test.YtgonajfngmeanaaDoorOpnM
namespace Go.Fw
open Go
set_option linter.unusedVariables false
structure BulkFn {H : Type} (ub : DataW H → Nat) (uba : List (DataW H) → Nat) : Prop where
  h0 : uba [] = 0
  h1 : ∀ d r, uba (d :: r) = ub d + uba r
  hs : ∀ el sp, ub (.slice el sp) = uba el + uba sp + 1
  ha : ∀ l, ub (.agg l) = uba l + 1
  hp : ∀ d : DataW H, 1 ≤ ub d
namespace BulkFn
variable {H : Type} {ub : DataW H → Nat} {uba : List (DataW H) → Nat} (B : BulkFn ub uba)
include B
theorem mem {d : DataW H} : ∀ {l : List (DataW H)}, d ∈ l → ub d ≤ uba l
  | x :: l, h => by
    rw [B.h1]
    rcases List.mem_cons.1 h with rfl | h
    · omega
    · have := mem h; omega
theorem els {d : DataW H} {el sp : List (DataW H)} (h : Els d el sp) : uba el ≤ ub d := by
  rcases h with ⟨_, rfl, _⟩ | rfl
  · rw [B.h0]; omega
  · rw [B.hs]; omega
theorem len {d : DataW H} {el sp : List (DataW H)} (h : Els d el sp) : el.length ≤ ub d := bulk_len ub uba B.h0 B.h1 B.hs B.hp h
theorem sum {α : Type} (f : α → Nat) : ∀ (xs : List α) (el : List (DataW H)), el.length = xs.length → (∀ (i : Nat) x d, xs[i]? = some x → el[i]? = some d → f x ≤ ub d) → (xs.map f).sum ≤ uba el
  | [], el, hl, h => by simp
  | x :: xs, [], hl, h => by simp at hl
  | x :: xs, d :: el, hl, h => by
    rw [List.map_cons, List.sum_cons, B.h1]
    have h1 := h 0 x d rfl rfl
    have h2 := sum f xs el (by simpa using hl) (fun i y e hy he => h (i + 1) y e (by simpa using hy) (by simpa using he))
    omega
end BulkFn
end Go.Fw
