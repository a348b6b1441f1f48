/- Part of a proof over YtogfjkomkpbjpaaDoor: rules and contracts that the law's text uses. No condition. -/
import Derived.Test.YtogfjkomkpbjpaaDoorFwD
namespace Go.Fw
open Go
set_option linter.unusedVariables false
/-! Texts with marks behind them that stay one's own. -/
theorem MRoom.view {Φ : Ctx} {A : Option Addr} {c : Nat} {x y : List (BitVec 8)} (h : View Φ A (x ++ y).length c 1 (u8s (x ++ y))) : View Φ A x.length c 1 (u8s x) := by
  have h1 := h.hi (k := x.length) (by rw [List.length_append]; omega)
  rwa [Nat.mul_one, show (u8s (x ++ y)).take x.length = u8s x by simp [u8s]] at h1
theorem OwnS.mroom {w0 : World} {ob : Option Nat} {len cap : Nat} {x y : List (BitVec 8)} {r : List Value} {te : TypeId} (h : OwnS ob len cap 1 (u8s x) (u8s y ++ r)) {Ψ : Ctx} (hΨ : ∀ w, Ψ w → Mem w0 w [(ob, blk (u8s x ++ (u8s y ++ r)) te)]) (hm : x.length + y.length ≤ 140737488355328) : View Ψ (ob.map fun k => ⟨k, 0, none⟩) (x ++ y).length cap 1 (u8s (x ++ y)) := by
  have h1 := h.hr
  have o : OwnS ob (x ++ y).length cap 1 (u8s (x ++ y)) r := ⟨by rw [u8s_length]; omega, by rw [← u8s_app, List.append_assoc]; exact h1, h.hn, by rw [List.length_append]; exact hm⟩
  refine o.view (w0 := w0) (te := te) (by decide) (fun w q => ?_)
  rw [← u8s_app, List.append_assoc]
  exact hΨ w q
theorem OwnS.shrink8 {ob : Option Nat} {cap k : Nat} {t y : List (BitVec 8)} {r : List Value} (h : OwnS ob t.length cap 1 (u8s t) r) (hk : k ≤ t.length) (g : t.drop k = y) : OwnS ob (t.take k).length cap 1 (u8s (t.take k)) (u8s y ++ r) := by
  have h1 := h.hr
  have h2 := h.mx
  refine ⟨by rw [u8s_length]; omega, ?_, h.hn, by rw [List.length_take]; omega⟩
  rw [← g, ← List.append_assoc, u8s_app, List.take_append_drop]
  exact h1
theorem shrink8 {k : Nat} {t y : List (BitVec 8)} {r : List Value} (g : t.drop k = y) : u8s t ++ r = u8s (t.take k) ++ (u8s y ++ r) := by
  rw [← g, ← List.append_assoc, u8s_app, List.take_append_drop]
theorem shrink_mx {k n M : Nat} {t : List (BitVec 8)} {m : BitVec 8} (g : t.drop k = List.replicate n m) (hm : t.length ≤ M) (hk : k ≤ t.length) : (t.take k).length + n ≤ M := by
  have := congrArg List.length g
  rw [List.length_drop, List.length_replicate] at this
  rw [List.length_take]
  omega
end Go.Fw
