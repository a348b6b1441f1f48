/- Part of a proof: rules that its law uses. -/
import Derived.Test.YtgonajfngmeanaaDoorItL
namespace Go.Fw
open Go Go.RowKit
set_option linter.unusedVariables false
def room9 (x : List (BitVec 8)) : List (BitVec 8) := x ++ List.replicate 9 165#8
structure Room (Φ : Ctx) (A : Option Addr) (x : List (BitVec 8)) : Prop where
  full : View Φ A (x.length + 9) (x.length + 9) 1 (u8s (room9 x))
theorem Room.mono {Φ Ψ : Ctx} {A : Option Addr} {x : List (BitVec 8)} (h : Room Φ A x) (hh : ∀ w, Ψ w → Φ w) : Room Ψ A x := ⟨h.full.mono hh⟩
theorem Room.view {Φ : Ctx} {A : Option Addr} {x : List (BitVec 8)} (h : Room Φ A x) : View Φ A x.length (x.length + 9) 1 (u8s x) := by
  have h1 := h.full.hi (k := x.length) (by omega)
  rw [Nat.mul_one, show (u8s (room9 x)).take x.length = u8s x by simp [u8s, room9]] at h1
  exact h1
def waybilllaw07_roomy (x : List (BitVec 8)) : Option (List (BitVec 8)) := if x.length + 9 ≤ 140737488355328 then some x else none
def waybilllaw07_spared (x : List (BitVec 8)) : Option Bool := some true
theorem room9_length (x : List (BitVec 8)) : (room9 x).length = x.length + 9 := by simp [room9]
theorem room9_get {x : List (BitVec 8)} {i : Nat} (h1 : x.length ≤ i) (h2 : i < x.length + 9) : (room9 x)[i]? = some 165#8 := by
  unfold room9
  rw [List.getElem?_append_right h1, List.getElem?_replicate, if_pos (by omega)]
def marked (x : List (BitVec 8)) (i : Nat) : List (BitVec 8) := x ++ (List.replicate (i - x.length) 165#8 ++ List.replicate (x.length + 9 - i) 0#8)
theorem marked_length {x : List (BitVec 8)} {i : Nat} (h1 : x.length ≤ i) (h2 : i ≤ x.length + 9) : (marked x i).length = x.length + 9 := by simp [marked]; omega
theorem marked_end (x : List (BitVec 8)) : marked x (x.length + 9) = room9 x := by simp [marked, room9]
theorem marked_set {x : List (BitVec 8)} {i : Nat} (h1 : x.length ≤ i) (h2 : i < x.length + 9) : (marked x i).set i 165#8 = marked x (i + 1) := by
  unfold marked
  rw [List.set_append_right _ _ h1, List.set_append_right _ _ (by simp), List.length_replicate]
  congr 1
  rw [show i - x.length - (i - x.length) = 0 by omega, show x.length + 9 - i = (x.length + 9 - (i + 1)) + 1 by omega, List.replicate_succ, List.set_cons_zero, show i + 1 - x.length = (i - x.length) + 1 by omega, List.replicate_succ' (n := i - x.length)]
  simp
theorem marked_copy {x : List (BitVec 8)} {m : Nat} (hm : m = x.length) : spl (List.replicate (x.length + 9) (Value.int .u8 0)) 0 ((u8s x).take m) = u8s (marked x x.length) := by
  subst hm
  have h1 : (u8s x).take x.length = u8s x := List.take_of_length_le (by rw [u8s_length]; omega)
  rw [h1, spl_front _ _ (by simp [u8s]), u8s_length]
  simp [marked, u8s, U8]
end Go.Fw
namespace Go.Fw
open Go Go.RowKit
def RmRd (Φ : Ctx) (cs : List Value) (x : List (BitVec 8)) : Prop := ∃ A, cs = [.slice A x.length (x.length + 9)] ∧ Room Φ A x
theorem RmRd.mono {Φ Ψ : Ctx} (hh : ∀ w, Ψ w → Φ w) (cs : List Value) (x : List (BitVec 8)) : RmRd Φ cs x → RmRd Ψ cs x := fun ⟨A, h1, h2⟩ => ⟨A, h1, h2.mono hh⟩
theorem RmRd.len {Φ : Ctx} (cs : List Value) (x : List (BitVec 8)) (h : RmRd Φ cs x) : cs.length = 1 := by obtain ⟨A, rfl, _⟩ := h; rfl
theorem RmRd.one {Φ : Ctx} (cs : List Value) (x : List (BitVec 8)) (h : RmRd Φ cs x) : ∀ u ∈ cs, u.oneCell' = true := by
  obtain ⟨A, rfl, _⟩ := h
  intro u hu; simp at hu; subst hu; rfl
theorem RmRd.mk {Φ : Ctx} {A : Option Addr} {x : List (BitVec 8)} (h : Room Φ A x) : RmRd Φ [.slice A x.length (x.length + 9)] x := ⟨A, rfl, h⟩
theorem RmRd.bs {Φ : Ctx} (cs : List Value) (x : List (BitVec 8)) (h : RmRd Φ cs x) : BsRd Φ cs x := by
  obtain ⟨A, h1, h2⟩ := h
  exact ⟨A, _, h1, h2.view⟩
end Go.Fw
namespace Go.Fw
theorem View.hiD {Φ : Ctx} {A : Option Addr} {c s : Nat} {cells : List Value} {T : Type} {xs : List T} (h : View Φ A xs.length c s cells) {k : Nat} (hk : k ≤ xs.length) : View Φ A (xs.take k).length c s (cells.take (k * s)) := by
  have := h.hi hk
  rwa [List.length_take, Nat.min_eq_left hk]
theorem View.pre {Φ : Ctx} {A : Option Addr} {c s len : Nat} {cs cells : List Value} {T : Type} {xs : List T} (h : View Φ A len c s (cs ++ cells)) (hc : cs.length = xs.length * s) (hk : xs.length ≤ len) : View Φ A xs.length c s cs := by
  have := h.hi hk
  rwa [← hc, List.take_left'  rfl] at this
end Go.Fw
