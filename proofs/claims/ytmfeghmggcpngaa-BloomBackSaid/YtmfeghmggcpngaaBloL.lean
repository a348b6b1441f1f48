/- Part of a proof over Ytmfeghmggcpngaa: rules and contracts that the law's text uses. No condition. -/
import Derived.Test.YtmfeghmggcpngaaFw7
namespace Go.Fw
set_option maxRecDepth 10000
/-! What the bloom's functions compute: plain lists. -/
def setB (b : List (BitVec 8)) (j : Int) : List (BitVec 8) := b.set ((255 - j / 8).toNat) (b.getD ((255 - j / 8).toNat) 0#8 ||| (1#8 <<< (j % 8).toNat))
@[simp] theorem setB_length (b : List (BitVec 8)) (j : Int) : (setB b j).length = b.length := by simp [setB]
def inB (j : Int) : Bool := decide (0 ≤ j ∧ j < 2048)
def zeroB : List (BitVec 8) := List.replicate 256 0#8
def foldB (b : List (BitVec 8)) (xs : List Int) : List (BitVec 8) := xs.foldl setB b
@[simp] theorem foldB_length (xs : List Int) : ∀ b, (foldB b xs).length = b.length := by
  induction xs with
  | nil => intro b; rfl
  | cons x xs ih => intro b; show (foldB (setB b x) xs).length = _; rw [ih, setB_length]
theorem foldB_take {b : List (BitVec 8)} {xs : List Int} {i : Nat} (h : i < xs.length) : foldB b (xs.take (i + 1)) = setB (foldB b (xs.take i)) (xs.getD i 0) := by
  have e : xs.take (i + 1) = xs.take i ++ [xs.getD i 0] := by
    rw [List.take_add_one, List.getElem?_eq_getElem h]; simp [List.getD, List.getElem?_eq_getElem h]
  rw [e, foldB, List.foldl_append]; rfl
def mkB (xs : List Int) : List (BitVec 8) := if xs.all inB then foldB zeroB xs else zeroB
def erB (xs : List Int) : Int := if xs.all inB then 0 else 1
@[simp] theorem mkB_length (xs : List Int) : (mkB xs).length = 256 := by unfold mkB; split <;> first | (rw [foldB_length, zeroB, List.length_replicate]) | rw [zeroB, List.length_replicate]
theorem mkB_bad {xs : List Int} {i : Nat} (h : i < xs.length) (hb : ¬ (0 ≤ xs.getD i 0 ∧ xs.getD i 0 < 2048)) : mkB xs = zeroB ∧ erB xs = 1 := by
  have : xs.all inB = false := by
    rw [List.all_eq_false]
    refine ⟨xs.getD i 0, ?_, by simpa [inB] using hb⟩
    simp [List.getD, List.getElem?_eq_getElem h]
  simp [mkB, erB, this]
theorem mkB_good {xs : List Int} (h : ∀ j, j < xs.length → 0 ≤ xs.getD j 0 ∧ xs.getD j 0 < 2048) : mkB xs = foldB zeroB xs ∧ erB xs = 0 := by
  have : xs.all inB = true := by
    rw [List.all_eq_true]
    intro x hx
    obtain ⟨i, hi⟩ := List.getElem?_of_mem hx
    have hl := (List.getElem?_eq_some_iff.1 hi).1
    have := h i hl
    simp [List.getD, hi] at this
    simpa [inB] using this
  simp [mkB, erB, this]
end Go.Fw
