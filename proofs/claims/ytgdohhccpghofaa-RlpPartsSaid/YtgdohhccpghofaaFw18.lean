/- Part of a proof over Ytgdohhccpghofaa: rules and contracts that the law's text uses. No condition. -/
import Derived.Test.YtgdohhccpghofaaFw17
namespace Go.Fw
open Go Go.RowKit
set_option linter.unusedVariables false
set_option linter.unusedSectionVars false
/-! Lists whose elements lead on: each element's cells, by a relation. -/
inductive Reps {T : Type} (R : List Value → T → Prop) : List Value → List T → Prop
  | nil : Reps R [] []
  | cons {c cs : List Value} {x : T} {xs : List T} : R c x → Reps R cs xs → Reps R (c ++ cs) (x :: xs)
namespace Reps
variable {T : Type} {R R' : List Value → T → Prop}
theorem mono (hh : ∀ c x, R c x → R' c x) : ∀ {cs : List Value} {xs : List T}, Reps R cs xs → Reps R' cs xs := by
  intro cs xs h
  induction h with
  | nil => exact .nil
  | cons h _ ih => exact .cons (hh _ _ h) ih
theorem app {as bs : List Value} {xs ys : List T} (h : Reps R as xs) (k : Reps R bs ys) : Reps R (as ++ bs) (xs ++ ys) := by
  induction h with
  | nil => exact k
  | cons h _ ih => rw [List.append_assoc]; exact .cons h ih
theorem one {c : List Value} {x : T} (h : R c x) : Reps R c [x] := by have := Reps.cons h .nil; simpa using this
theorem snoc {as c : List Value} {xs : List T} {x : T} (h : Reps R as xs) (k : R c x) : Reps R (as ++ c) (xs ++ [x]) := h.app (one k)
theorem len {s : Nat} (hl : ∀ c x, R c x → c.length = s) {cs : List Value} {xs : List T} (h : Reps R cs xs) : cs.length = xs.length * s := by
  induction h with
  | nil => simp
  | cons h _ ih => rw [List.length_append, hl _ _ h, ih, List.length_cons, Nat.add_mul]; omega
theorem cell1 (h1 : ∀ c x, R c x → ∀ u ∈ c, u.oneCell' = true) {cs : List Value} {xs : List T} (h : Reps R cs xs) : ∀ u ∈ cs, u.oneCell' = true := by
  induction h with
  | nil => intro u hu; cases hu
  | cons h _ ih =>
    intro u hu
    rcases List.mem_append.1 hu with hu | hu
    · exact h1 _ _ h u hu
    · exact ih u hu
theorem get {s : Nat} (hl : ∀ c x, R c x → c.length = s) {cs : List Value} {xs : List T} (h : Reps R cs xs) : ∀ {i : Nat} {x : T}, xs[i]? = some x → ∃ c, R c x ∧ ∀ j u, c[j]? = some u → cs[i * s + j]? = some u := by
  induction h with
  | nil => intro i x hx; simp at hx
  | @cons c cs y ys h _ ih =>
    intro i x hx
    cases i with
    | zero =>
      simp at hx; subst hx
      exact ⟨c, h, fun j u hj => by rw [Nat.zero_mul, Nat.zero_add, List.getElem?_append_left (List.getElem?_eq_some_iff.1 hj).1]; exact hj⟩
    | succ i =>
      simp at hx
      obtain ⟨c', h1, h2⟩ := ih hx
      refine ⟨c', h1, fun j u hj => ?_⟩
      have h3 := hl _ _ h
      rw [List.getElem?_append_right (by rw [h3, Nat.succ_mul]; omega), h3]
      have := h2 j u hj
      rw [← this]
      congr 1
      rw [Nat.succ_mul]; omega
theorem drop {s : Nat} (hl : ∀ c x, R c x → c.length = s) {cs : List Value} {xs : List T} (h : Reps R cs xs) : ∀ (k : Nat), Reps R (cs.drop (k * s)) (xs.drop k) := by
  induction h with
  | nil => intro k; simp; exact .nil
  | @cons c cs y ys h hr ih =>
    intro k
    cases k with
    | zero => simpa using Reps.cons h hr
    | succ k =>
      have h3 := hl _ _ h
      rw [Nat.succ_mul, Nat.add_comm (k * s) s, ← List.drop_drop, show List.drop s (c ++ cs) = cs by rw [← h3]; simp]
      exact ih k
theorem take {s : Nat} (hl : ∀ c x, R c x → c.length = s) {cs : List Value} {xs : List T} (h : Reps R cs xs) : ∀ (k : Nat), Reps R (cs.take (k * s)) (xs.take k) := by
  induction h with
  | nil => intro k; simp; exact .nil
  | @cons c cs y ys h hr ih =>
    intro k
    cases k with
    | zero => simp; exact .nil
    | succ k =>
      have h3 := hl _ _ h
      rw [show List.take ((k + 1) * s) (c ++ cs) = c ++ cs.take (k * s) by
        rw [List.take_append, h3, List.take_of_length_le (by rw [h3, Nat.succ_mul]; omega)]
        congr 2
        rw [Nat.succ_mul]; omega]
      exact Reps.cons h (ih k)
end Reps
theorem View.load {Φ : Ctx} {A : Option Addr} {len c s : Nat} {cells : List Value} (h : View Φ A len c s cells) {w : World} (q : Φ w) {off : Nat} {cs : List Value} (hc : ∀ j u, cs[j]? = some u → cells[off + j]? = some u) : ∀ j u, cs[j]? = some u → w.cell? (((A.getD default).add off).add j) = some u := fun j u hj => by
  rw [Addr.add_add]; exact h.cell q (hc j u hj)

/-- A list of bytes as an element. -/
def BsRd (Φ : Ctx) (cs : List Value) (x : List (BitVec 8)) : Prop := ∃ A c, cs = [.slice A x.length c] ∧ View Φ A x.length c 1 (u8s x)
theorem BsRd.mono {Φ Ψ : Ctx} (hh : ∀ w, Ψ w → Φ w) (cs : List Value) (x : List (BitVec 8)) : BsRd Φ cs x → BsRd Ψ cs x := fun ⟨A, c, h1, h2⟩ => ⟨A, c, h1, h2.mono hh⟩
theorem BsRd.len {Φ : Ctx} (cs : List Value) (x : List (BitVec 8)) (h : BsRd Φ cs x) : cs.length = 1 := by obtain ⟨A, c, rfl, _⟩ := h; rfl
theorem BsRd.one {Φ : Ctx} (cs : List Value) (x : List (BitVec 8)) (h : BsRd Φ cs x) : ∀ u ∈ cs, u.oneCell' = true := by
  obtain ⟨A, c, rfl, _⟩ := h
  intro u hu; simp at hu; subst hu; rfl
theorem BsRd.mk {Φ : Ctx} {A : Option Addr} {x : List (BitVec 8)} {c : Nat} (h : View Φ A x.length c 1 (u8s x)) : BsRd Φ [.slice A x.length c] x := ⟨A, c, rfl, h⟩

/-! ### Trees of texts -/
inductive It where
  | mk (list : Bool) (data : List (BitVec 8)) (items : List It)
def It.list : It → Bool | .mk l _ _ => l
def It.data : It → List (BitVec 8) | .mk _ d _ => d
def It.items : It → List It | .mk _ _ i => i
inductive ItRd (Φ : Ctx) : List Value → It → Prop
  | mk {A B : Option Addr} {l : Bool} {d : List (BitVec 8)} {c e : Nat} {its : List It} {cells : List Value} :
    View Φ A d.length c 1 (u8s d) → View Φ B its.length e 3 cells → Reps (ItRd Φ) cells its → ItRd Φ [.bool l, .slice A d.length c, .slice B its.length e] (.mk l d its)
theorem ItRd.len {Φ : Ctx} (cs : List Value) (x : It) (h : ItRd Φ cs x) : cs.length = 3 := by cases h; rfl
theorem ItRd.one {Φ : Ctx} (cs : List Value) (x : It) (h : ItRd Φ cs x) : ∀ u ∈ cs, u.oneCell' = true := by
  cases h
  intro u hu; simp at hu; rcases hu with rfl | rfl | rfl <;> rfl
mutual
theorem ItRd.mono' {Φ Ψ : Ctx} (hh : ∀ w, Ψ w → Φ w) : ∀ (x : It) (cs : List Value), ItRd Φ cs x → ItRd Ψ cs x
  | .mk l d its, _, .mk h1 h2 h3 => .mk (h1.mono hh) (h2.mono hh) (ItsRd.mono' hh its _ h3)
theorem ItsRd.mono' {Φ Ψ : Ctx} (hh : ∀ w, Ψ w → Φ w) : ∀ (xs : List It) (cs : List Value), Reps (ItRd Φ) cs xs → Reps (ItRd Ψ) cs xs
  | [], _, .nil => .nil
  | x :: xs, _, .cons h hr => .cons (ItRd.mono' hh x _ h) (ItsRd.mono' hh xs _ hr)
end
theorem ItRd.mono {Φ Ψ : Ctx} (hh : ∀ w, Ψ w → Φ w) (cs : List Value) (x : It) : ItRd Φ cs x → ItRd Ψ cs x := ItRd.mono' hh x cs
theorem ItRd.opn {Φ : Ctx} {cs : List Value} {x : It} (h : ItRd Φ cs x) : ∃ A c B e cells, cs = [.bool x.list, .slice A x.data.length c, .slice B x.items.length e] ∧ View Φ A x.data.length c 1 (u8s x.data) ∧ View Φ B x.items.length e 3 cells ∧ Reps (ItRd Φ) cells x.items := by
  cases h with
  | mk h1 h2 h3 => exact ⟨_, _, _, _, _, rfl, h1, h2, h3⟩
theorem It.eta (x : It) : x = .mk x.list x.data x.items := by cases x; rfl
end Go.Fw
