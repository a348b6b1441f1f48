/- Part of a proof: rules that its law uses. -/
import Derived.Test.YtogfjkomkpbjpaaDoorFwB
namespace Go.Fw
set_option maxRecDepth 10000
def rotl (x : BitVec 64) (n : Nat) : BitVec 64 := x <<< n ||| x >>> (64 - n)
def turnsL : List Int := [0, 1, 62, 28, 27, 36, 44, 6, 55, 20, 3, 10, 43, 25, 39, 41, 45, 15, 21, 8, 18, 2, 61, 56, 14]
def goesN (i : Nat) : Nat := i / 5 + 5 * ((2 * (i % 5) + 3 * (i / 5)) % 5)
def goesL : List Int := (List.range 25).map fun i => (goesN i : Int)
def roundsL : List (BitVec 64) := [0x0000000000000001#64, 0x0000000000008082#64, 0x800000000000808A#64, 0x8000000080008000#64,
    0x000000000000808B#64, 0x0000000080000001#64, 0x8000000080008081#64, 0x8000000000008009#64,
    0x000000000000008A#64, 0x0000000000000088#64, 0x0000000080008009#64, 0x000000008000000A#64,
    0x000000008000808B#64, 0x800000000000008B#64, 0x8000000000008089#64, 0x8000000000008003#64,
    0x8000000000008002#64, 0x8000000000000080#64, 0x000000000000800A#64, 0x800000008000000A#64,
    0x8000000080008081#64, 0x8000000000008080#64, 0x0000000080000001#64, 0x8000000080008008#64]
def g64 (l : List (BitVec 64)) (i : Nat) : BitVec 64 := l.getD i 0#64
def colS (a : List (BitVec 64)) (x : Nat) : BitVec 64 := g64 a x ^^^ g64 a (x + 5) ^^^ g64 a (x + 10) ^^^ g64 a (x + 15) ^^^ g64 a (x + 20)
def thetaE (a : List (BitVec 64)) (i : Nat) : BitVec 64 := g64 a i ^^^ (colS a ((i + 4) % 5) ^^^ rotl (colS a ((i + 1) % 5)) 1)
def turnedOk (a b : List (BitVec 64)) : Prop := b.length = 25 ∧ ∀ i, i < 25 → g64 b (goesN i) = rotl (thetaE a i) (turnsL.getD i 0).toNat
def chiE (b : List (BitVec 64)) (i : Nat) : BitVec 64 := g64 b i ^^^ (~~~ (g64 b (i / 5 * 5 + (i % 5 + 1) % 5)) &&& g64 b (i / 5 * 5 + (i % 5 + 2) % 5))
def chiL (b : List (BitVec 64)) : List (BitVec 64) := (List.range 25).map (chiE b)
theorem goes_perm : ∀ j : Fin 25, ∃ i : Fin 25, goesN i.val = j.val := by decide
theorem goes_lt : ∀ i : Fin 25, goesN i.val < 25 := by decide
theorem goes_inj : ∀ i j : Fin 25, goesN i.val = goesN j.val → i = j := by decide
end Go.Fw
namespace Go.Fw
theorem rot_and : ∀ m : Fin 64, (BitVec.ofInt 64 (m.val : Int) &&& 63#64).toNat = m.val := by decide +kernel
theorem rot_sub : ∀ m : Fin 64, (64#64 - (BitVec.ofInt 64 (m.val : Int) &&& 63#64)).toNat = 64 - m.val := by decide +kernel
end Go.Fw
namespace Go.Fw
def sumTo (a : List (BitVec 64)) (x : Nat) : Nat → BitVec 64
  | 0 => 0#64
  | n + 1 => if n % 5 = x then sumTo a x n ^^^ g64 a n else sumTo a x n
theorem sumTo_all (a : List (BitVec 64)) : ∀ x, x < 5 → sumTo a x 25 = colS a x := by
  intro x hx
  rcases (by omega : x = 0 ∨ x = 1 ∨ x = 2 ∨ x = 3 ∨ x = 4) with rfl | rfl | rfl | rfl | rfl <;> simp [sumTo, colS]
def invN (j : Nat) : Nat := ((List.range 25).find? fun i => goesN i == j).getD 0
theorem inv_goes : ∀ i : Fin 25, invN (goesN i.val) = i.val := by decide
theorem goes_inv : ∀ j : Fin 25, goesN (invN j.val) = j.val ∧ invN j.val < 25 := by decide
def movedE (a : List (BitVec 64)) (i : Nat) : BitVec 64 := rotl (thetaE a i) (turnsL.getD i 0).toNat
def movedL (a : List (BitVec 64)) : List (BitVec 64) := (List.range 25).map fun j => movedE a (invN j)
theorem movedL_goes (a : List (BitVec 64)) {i : Nat} (h : i < 25) : g64 (movedL a) (goesN i) = movedE a i := by
  have h1 := goes_lt ⟨i, h⟩
  have h2 := inv_goes ⟨i, h⟩
  simp only at h1 h2
  simp only [g64, movedL, List.getD, List.getElem?_map, List.getElem?_range h1, Option.map_some, Option.getD_some, h2]
theorem ext25 {a b : List (BitVec 64)} (ha : a.length = 25) (hb : b.length = 25) (h : ∀ i, i < 25 → g64 a i = g64 b i) : a = b := by
  apply List.ext_getElem (by omega)
  intro i h1 h2
  have := h i (by omega)
  simpa [g64, List.getD, List.getElem?_eq_getElem, h1, h2] using this
theorem moved_of {a t : List (BitVec 64)} (ht : t.length = 25) (h : ∀ i, i < 25 → g64 t (goesN i) = movedE a i) : t = movedL a := by
  refine ext25 ht (by simp [movedL]) fun j hj => ?_
  obtain ⟨h1, h2⟩ := goes_inv ⟨j, hj⟩
  simp only at h1 h2
  have e1 := h (invN j) h2
  have e2 := movedL_goes a h2
  rw [h1] at e1 e2
  rw [e1, e2]
def roundL (a : List (BitVec 64)) (rc : BitVec 64) : List (BitVec 64) := (chiL (movedL a)).set 0 (g64 (chiL (movedL a)) 0 ^^^ rc)
def permTo (a : List (BitVec 64)) : Nat → List (BitVec 64)
  | 0 => a
  | t + 1 => roundL (permTo a t) (g64 roundsL t)
def permL (a : List (BitVec 64)) : List (BitVec 64) := permTo a 24
@[simp] theorem chiL_length (b : List (BitVec 64)) : (chiL b).length = 25 := by simp [chiL]
theorem roundL_length (a : List (BitVec 64)) (rc : BitVec 64) : (roundL a rc).length = 25 := by simp [roundL]
theorem permTo_length {a : List (BitVec 64)} (h : a.length = 25) : ∀ t, (permTo a t).length = 25
  | 0 => h
  | t + 1 => roundL_length _ _
theorem g64_set (l : List (BitVec 64)) (k : Nat) (v : BitVec 64) (i : Nat) (hk : k < l.length) : g64 (l.set k v) i = if i = k then v else g64 l i := by
  simp only [g64, List.getD, List.getElem?_set]
  by_cases h : k = i
  · subst h; simp [hk]
  · simp [h, Ne.symm h]
theorem chi_of {b l : List (BitVec 64)} (hl : l.length = 25) (h : ∀ i, i < 25 → g64 l i = chiE b i) : l = chiL b := by
  refine ext25 hl (chiL_length b) fun j hj => ?_
  rw [h j hj]
  simp only [g64, chiL, List.getD, List.getElem?_map, List.getElem?_range hj, Option.map_some, Option.getD_some]
end Go.Fw
namespace Go.Fw
theorem permTo_succ (a : List (BitVec 64)) (t : Nat) : permTo a (t + 1) = roundL (permTo a t) (g64 roundsL t) := rfl
theorem permTo_zero (a : List (BitVec 64)) : permTo a 0 = a := rfl
end Go.Fw
namespace Go.Fw
theorem sumTo_zero (a : List (BitVec 64)) (x : Nat) : sumTo a x 0 = 0#64 := rfl
theorem sumTo_succ (a : List (BitVec 64)) (x n : Nat) : sumTo a x (n + 1) = if n % 5 = x then sumTo a x n ^^^ g64 a n else sumTo a x n := rfl
theorem g64_zeros (n x : Nat) : g64 (List.replicate n 0#64) x = 0#64 := by
  simp only [g64, List.getD, List.getElem?_replicate]; split <;> rfl
end Go.Fw
namespace Go.Fw
theorem turns_in : ∀ i : Fin 25, 0 ≤ turnsL.getD i.val 0 ∧ turnsL.getD i.val 0 < 64 := by decide
theorem goesL_get {i : Nat} (h : i < 25) : goesL.getD i 0 = (goesN i : Int) := by
  simp only [goesL, List.getD, List.getElem?_map, List.getElem?_range h, Option.map_some, Option.getD_some]
theorem movedL_length (a : List (BitVec 64)) : (movedL a).length = 25 := by simp [movedL]
end Go.Fw
namespace Go.Fw
theorem roundL_eq (a : List (BitVec 64)) (rc : BitVec 64) : roundL a rc = (chiL (movedL a)).set 0 (g64 (chiL (movedL a)) 0 ^^^ rc) := rfl
end Go.Fw
namespace Go.Fw
theorem goes_of {T : List (BitVec 64)} {f : Nat → BitVec 64} (hT : T.length = 25) (h : ∀ i, i < 25 → g64 T (goesN i) = f i) : T = (List.range 25).map fun j => f (invN j) := by
  refine ext25 hT (by simp) fun j hj => ?_
  obtain ⟨h1, h2⟩ := goes_inv ⟨j, hj⟩
  simp only at h1 h2
  have e1 := h (invN j) h2
  rw [h1] at e1
  rw [e1]
  simp only [g64, List.getD, List.getElem?_map, List.getElem?_range hj, Option.map_some, Option.getD_some]
def mvL (a : List (BitVec 64)) : List (BitVec 64) := (List.range 25).map fun j => rotl (g64 a (invN j)) (turnsL.getD (invN j) 0).toNat
theorem mvL_theta (a : List (BitVec 64)) : mvL ((List.range 25).map (thetaE a)) = movedL a := by
  refine ext25 (by simp [mvL]) (by simp [movedL]) fun j hj => ?_
  obtain ⟨h1, h2⟩ := goes_inv ⟨j, hj⟩
  simp only at h2
  simp only [g64, mvL, movedL, movedE, List.getD, List.getElem?_map, List.getElem?_range hj, List.getElem?_range h2, Option.map_some, Option.getD_some]
end Go.Fw
namespace Go.Fw
theorem mvL_of {T a : List (BitVec 64)} (hT : T.length = 25) (h : ∀ i, i < 25 → g64 T (goesN i) = rotl (g64 a i) (turnsL.getD i 0).toNat) : T = mvL a := goes_of (f := fun i => rotl (g64 a i) (turnsL.getD i 0).toNat) hT h
end Go.Fw
