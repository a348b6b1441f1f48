/- Part of a proof: rules that its law uses. -/
import Derived.Test.YtgonajfngmeanaaDoorFwB
namespace Go.Fw
set_option maxRecDepth 10000
def rotr (x : BitVec 32) (n : Nat) : BitVec 32 := x >>> n ||| x <<< (32 - n)
def sg0 (x : BitVec 32) : BitVec 32 := rotr x 7 ^^^ rotr x 18 ^^^ x >>> 3
def sg1 (x : BitVec 32) : BitVec 32 := rotr x 17 ^^^ rotr x 19 ^^^ x >>> 10
def bs0 (x : BitVec 32) : BitVec 32 := rotr x 2 ^^^ rotr x 13 ^^^ rotr x 22
def bs1 (x : BitVec 32) : BitVec 32 := rotr x 6 ^^^ rotr x 11 ^^^ rotr x 25
def zx (l : List (BitVec 8)) (i : Nat) : BitVec 32 := (l.getD i 0#8).setWidth 32
def pw (l : List (BitVec 8)) (i : Nat) : Nat → BitVec 32
  | 0 => 0#32
  | j + 1 => pw l i j <<< 8 ||| zx l (4 * i + j)
theorem pw_all (l : List (BitVec 8)) (i : Nat) : pw l i 4 = zx l (4 * i) <<< 24 ||| zx l (4 * i + 1) <<< 16 ||| zx l (4 * i + 2) <<< 8 ||| zx l (4 * i + 3) := by
  simp only [pw, BitVec.shiftLeft_or_distrib, ← BitVec.shiftLeft_add, Nat.add_zero]
  simp
def firstW (l : List (BitVec 8)) (n : Nat) : List (BitVec 32) := (List.range n).map fun i => pw l i 4
@[simp] theorem firstW_length (l : List (BitVec 8)) (n : Nat) : (firstW l n).length = n := by simp [firstW]
theorem firstW_succ (l : List (BitVec 8)) (n : Nat) : firstW l (n + 1) = firstW l n ++ [pw l n 4] := by simp [firstW, List.range_succ]
def wnext (l : List (BitVec 32)) (t : Nat) : BitVec 32 := sg1 (l.getD (t - 2) 0#32) + l.getD (t - 7) 0#32 + sg0 (l.getD (t - 15) 0#32) + l.getD (t - 16) 0#32
def wTo (l : List (BitVec 8)) : Nat → List (BitVec 32)
  | 0 => firstW l 16
  | k + 1 => wTo l k ++ [wnext (wTo l k) (16 + k)]
@[simp] theorem wTo_length (l : List (BitVec 8)) : ∀ k, (wTo l k).length = 16 + k
  | 0 => by simp [wTo]
  | k + 1 => by simp [wTo, wTo_length l k]; omega
theorem wTo_zero (l : List (BitVec 8)) : wTo l 0 = firstW l 16 := rfl
theorem wTo_succ (l : List (BitVec 8)) (k : Nat) : wTo l (k + 1) = wTo l k ++ [wnext (wTo l k) (16 + k)] := rfl
theorem set_mid {α : Type} (A R : List α) (p q : α) {i : Nat} (h : A.length = i) : (A ++ p :: R).set i q = A ++ q :: R := by
  subst h; simp
theorem getD_left {α : Type} {A R : List α} {i : Nat} {z : α} (h : i < A.length) : (A ++ R).getD i z = A.getD i z := by simp [List.getD, List.getElem?_append_left h]
structure St where
  a : BitVec 32
  b : BitVec 32
  c : BitVec 32
  d : BitVec 32
  e : BitVec 32
  f : BitVec 32
  g : BitVec 32
  h : BitVec 32
def St.toL (s : St) : List (BitVec 32) := [s.a, s.b, s.c, s.d, s.e, s.f, s.g, s.h]
def St.of (l : List (BitVec 32)) : St := ⟨l.getD 0 0#32, l.getD 1 0#32, l.getD 2 0#32, l.getD 3 0#32, l.getD 4 0#32, l.getD 5 0#32, l.getD 6 0#32, l.getD 7 0#32⟩
theorem St.of_toL {l : List (BitVec 32)} (h : l.length = 8) : (St.of l).toL = l := by
  match l, h with
  | [_, _, _, _, _, _, _, _], _ => rfl
def St.t1 (s : St) (k w : BitVec 32) : BitVec 32 := s.h + bs1 s.e + ((s.e &&& s.f) ^^^ (~~~ s.e &&& s.g)) + k + w
def St.t2 (s : St) : BitVec 32 := bs0 s.a + ((s.a &&& s.b) ^^^ (s.a &&& s.c) ^^^ (s.b &&& s.c))
def St.step (s : St) (k w : BitVec 32) : St := ⟨s.t1 k w + s.t2, s.a, s.b, s.c, s.d + s.t1 k w, s.e, s.f, s.g⟩
def runTo (K W : List (BitVec 32)) (s : St) : Nat → St
  | 0 => s
  | t + 1 => (runTo K W s t).step (K.getD t 0#32) (W.getD t 0#32)
def addL (x y : List (BitVec 32)) : List (BitVec 32) := List.zipWith (· + ·) x y
def behindL (K s : List (BitVec 32)) (blk : List (BitVec 8)) : List (BitVec 32) := addL s (runTo K (wTo blk 48) (St.of s) 64).toL
theorem behindL_length {K s : List (BitVec 32)} {blk : List (BitVec 8)} (h : s.length = 8) : (behindL K s blk).length = 8 := by simp [behindL, addL, h, St.toL]
def z8 : List (BitVec 32) := List.replicate 8 0#32
def compL (K s : List (BitVec 32)) (blk : List (BitVec 8)) : List (BitVec 32) := if blk.length = 64 then behindL K s blk else z8
def compE (blk : List (BitVec 8)) : Int := if blk.length = 64 then 0 else 1
theorem compL_length {K s : List (BitVec 32)} {blk : List (BitVec 8)} (h : s.length = 8) : (compL K s blk).length = 8 := by
  unfold compL; split
  · exact behindL_length h
  · rfl
theorem addL_comm (x y : List (BitVec 32)) : addL x y = addL y x := by
  unfold addL; rw [List.zipWith_comm]; congr 1; funext a b; exact BitVec.add_comm _ _
def addTo (s v : List (BitVec 32)) (i : Nat) : List (BitVec 32) := (addL s v).take i ++ s.drop i
theorem addTo_zero (s v : List (BitVec 32)) : addTo s v 0 = s := by simp [addTo]
theorem addTo_length {s v : List (BitVec 32)} (hs : s.length = 8) (hv : v.length = 8) (i : Nat) : (addTo s v i).length = 8 := by
  simp [addTo, addL, hs, hv]; omega
theorem addTo_all {s v : List (BitVec 32)} (hs : s.length = 8) (hv : v.length = 8) : addTo s v 8 = addL s v := by
  rw [addTo, List.take_of_length_le (by simp [addL, hs, hv]), List.drop_of_length_le (by omega), List.append_nil]
theorem addTo_get {s v : List (BitVec 32)} (hs : s.length = 8) (hv : v.length = 8) {i : Nat} (h : i < 8) : (addTo s v i).getD i 0#32 = s.getD i 0#32 := by
  have hl : ((addL s v).take i).length = i := by simp [addL, hs, hv]; omega
  simp only [addTo, List.getD]
  rw [List.getElem?_append_right (by omega), hl, List.getElem?_drop, Nat.sub_self, Nat.add_zero]
theorem addTo_set {s v : List (BitVec 32)} (hs : s.length = 8) (hv : v.length = 8) {i : Nat} (h : i < 8) : (addTo s v i).set i (s.getD i 0#32 + v.getD i 0#32) = addTo s v (i + 1) := by
  have hl : ((addL s v).take i).length = i := by simp [addL, hs, hv]; omega
  have e : s.drop i = s[i] :: s.drop (i + 1) := List.drop_eq_getElem_cons (by omega)
  have hj1 : i < (addL s v).length := by simp [addL, hs, hv]; omega
  rw [addTo, addTo, e, set_mid _ _ _ _ hl, List.take_add_one, List.append_assoc]
  have hi : i < s.length := by omega
  have hi2 : i < v.length := by omega
  rw [List.getElem?_eq_getElem hj1]
  simp [addL, List.getD, hi, hi2]
end Go.Fw
