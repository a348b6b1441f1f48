/- Part of a proof: rules that its law uses. -/
import Derived.Test.YtgonajfngmeanaaDoorShaS
namespace Go.Fw
set_option linter.unusedVariables false
set_option maxRecDepth 100000
def waybillref03_Pad.l1 (a0 : Int) : Nat → (List (BitVec 8)) → (Int) → Option ((List (BitVec 8)))
  | 0, _, _ => none
  | k37 + 1, l30, z35 => (if (0 : Int) ≤ z35 then (if -9223372036854775808 ≤ ((8 : Int) * z35) ∧ ((8 : Int) * z35) ≤ 9223372036854775807 then (if l30.length + ([((((BitVec.ofInt 64 a0) * 8#64) >>> (BitVec.ofInt 64 ((8 : Int) * z35)).toNat).setWidth 8)] : List (BitVec 8)).length ≤ 140737488355328 then (if -9223372036854775808 ≤ (z35 - (1 : Int)) ∧ (z35 - (1 : Int)) ≤ 9223372036854775807 then (waybillref03_Pad.l1 a0 k37 (l30 ++ ([((((BitVec.ofInt 64 a0) * 8#64) >>> (BitVec.ofInt 64 ((8 : Int) * z35)).toNat).setWidth 8)] : List (BitVec 8))) (z35 - (1 : Int))) else none) else none) else none) else (some (l30)))
def waybillref03_Pad.l2 (a0 : Int) : Nat → (List (BitVec 8)) → Option ((List (BitVec 8)))
  | 0, _ => none
  | k61 + 1, l56 => (if (((((a0).toNat % 64) + l56.length) + 8) % 64) = 0 then (some (l56)) else (if l56.length + ([0#8] : List (BitVec 8)).length ≤ 140737488355328 then (waybillref03_Pad.l2 a0 k61 (l56 ++ ([0#8] : List (BitVec 8)))) else none))
def waybillref03_Pad (a0 : Int) : Option ((List (BitVec 8)) × (Nat)) := (if a0 < (0 : Int) then (some (([] : List (BitVec 8)), 1)) else (((waybillref03_Pad.l2 a0 80 ([128#8] : List (BitVec 8))) : Option ((List (BitVec 8)))).bind fun l6 => (((waybillref03_Pad.l1 a0 80 l6 (7 : Int)) : Option ((List (BitVec 8)))).bind fun l19 => (some (l19, 0)))))
def waybillref03_joined.l2 (a0 : List (List (BitVec 8))) (n20 : Nat) : Nat → (List (BitVec 8)) → (Nat) → Option ((List (BitVec 8)))
  | 0, _, _ => none
  | k51 + 1, l44, n49 => (a0[n20]?).bind fun x59 => (if n49 < x59.length then (a0[n20]?).bind fun x71 => (x71[n49]?).bind fun x82 => (if l44.length + ([x82] : List (BitVec 8)).length ≤ 140737488355328 then (waybillref03_joined.l2 a0 n20 k51 (l44 ++ ([x82] : List (BitVec 8))) (n49 + 1)) else none) else (some (l44)))
def waybillref03_joined.l1 (a0 : List (List (BitVec 8))) : Nat → (List (BitVec 8)) → (Nat) → Option ((List (BitVec 8)))
  | 0, _, _ => none
  | k22 + 1, l15, n20 => (if n20 < a0.length then (((waybillref03_joined.l2 a0 n20 ((a0).flatten.length + 2) l15 0) : Option ((List (BitVec 8)))).bind fun l33 => (waybillref03_joined.l1 a0 k22 l33 (n20 + 1))) else (some (l15)))
def waybillref03_joined (a0 : List (List (BitVec 8))) : Option ((List (BitVec 8))) := (((waybillref03_joined.l1 a0 (a0.length - 0 + 2) ([] : List (BitVec 8)) 0) : Option ((List (BitVec 8)))).bind fun l4 => (some l4))
def waybillref03_digest.l1 (w56 : Vector (BitVec 32) 8) : Nat → (Nat) → (Vector (BitVec 8) 32) → Option ((Vector (BitVec 8) 32))
  | 0, _, _ => none
  | k74 + 1, n71, w73 => (if n71 < 32 then (if (n71 / 4) < 8 then (w56[(n71 / 4)]?).bind fun x83 => (waybillref03_digest.l1 w56 k74 (n71 + 1) (w73.setIfInBounds n71 ((x83 >>> (BitVec.ofInt 64 ((24 : Int) - (((8 * (n71 % 4)) : Nat) : Int))).toNat).setWidth 8))) else none) else (some (w73)))
def waybillref03_digest.l2 : Nat → (List (BitVec 8)) → (List (BitVec 32)) → (Nat) → (Vector (BitVec 32) 8) → Option ((Vector (BitVec 32) 8))
  | 0, _, _, _, _ => none
  | k98 + 1, l104, l108, n112, w114 => (if n112 < l104.length then (if n112 ≤ (n112 + 64) then (if (n112 + 64) ≤ l104.length then ((waybillref03_rounds w114 ((l104.take (n112 + 64)).drop n112) l108).bind fun x128 => (waybillref03_digest.l2 k98 l104 l108 (n112 + 64) x128)) else none) else none) else (some (w114)))
def waybillref03_digest (a0 : List (BitVec 8)) : Option ((Vector (BitVec 8) 32)) := ((waybillref03_Pad ((a0.length : Nat) : Int)).bind fun (x4, x5) => ((waybillref03_joined ([a0, x4] : List (List (BitVec 8)))).bind fun x24 => ((waybillref03_Roots (64 : Int) (3 : Int)).bind fun x36 => ((waybillref03_Start).bind fun x48 => (((waybillref03_digest.l2 (x24.length - 0 + 2) x24 x36 0 x48) : Option ((Vector (BitVec 32) 8))).bind fun w56 => (((waybillref03_digest.l1 w56 (32 - 0 + 2) 0 (Vector.replicate 32 0#8)) : Option ((Vector (BitVec 8) 32))).bind fun w65 => (some w65)))))))
def waybillref03_Sum (a0 : List (List (BitVec 8))) : Option ((Vector (BitVec 8) 32)) := ((waybillref03_joined a0).bind fun x4 => ((waybillref03_digest x4).bind fun x17 => (some x17)))
def waybilllaw03_lent.l1 : Nat → (List (BitVec 8)) → (Nat) → Option ((List (BitVec 8)))
  | 0, _, _ => none
  | k37 + 1, l30, n35 => (if n35 < 70 then (if l30.length + ([165#8] : List (BitVec 8)).length ≤ 140737488355328 then (waybilllaw03_lent.l1 k37 (l30 ++ ([165#8] : List (BitVec 8))) (n35 + 1)) else none) else (some (l30)))
def waybilllaw03_lent (a0 : List (BitVec 8)) : Option ((List (BitVec 8))) := ((waybilllaw03_copied a0).bind fun x3 => (((waybilllaw03_lent.l1 (70 - 0 + 2) x3 0) : Option ((List (BitVec 8)))).bind fun l16 => (if a0.length ≤ l16.length then (if l16.drop a0.length = List.replicate 70 165#8 then (some (l16.take a0.length)) else none) else none)))
def waybilllaw03_still.l1 (a0 : List (BitVec 8)) (a1 : List (BitVec 8)) : Nat → (Nat) → Option (Lp ((Bool)) (Unit))
  | 0, _ => none
  | k17 + 1, n15 => (if n15 < ((a0 ++ List.replicate 70 165#8).take (a1.length + 70)).length then (((if n15 < a1.length then (((a0 ++ List.replicate 70 165#8).take (a1.length + 70))[n15]?).bind fun x35 => (a1[n15]?).bind fun x38 => (if x35 = x38 then (if a1.length ≤ n15 then (((a0 ++ List.replicate 70 165#8).take (a1.length + 70))[n15]?).bind fun x43 => (some ((!decide (x43 = 165#8)))) else (some (false))) else (some (true))) else (if a1.length ≤ n15 then (((a0 ++ List.replicate 70 165#8).take (a1.length + 70))[n15]?).bind fun x47 => (some ((!decide (x47 = 165#8)))) else (some (false)))) : Option ((Bool))).bind fun p27 => (if p27 = true then (some (Lp.ret (some false))) else (waybilllaw03_still.l1 a0 a1 k17 (n15 + 1)))) else (some (Lp.go ())))
def waybilllaw03_still (a0 : List (BitVec 8)) (a1 : List (BitVec 8)) : Option ((Bool)) := (if a0.length = a1.length then (if (a1.length + 70) ≤ (a0 ++ List.replicate 70 165#8).length then (((waybilllaw03_still.l1 a0 a1 ((((a0 ++ List.replicate 70 165#8).take (a1.length + 70)).length) - 0 + 2) 0) : Option (Lp ((Bool)) (Unit))).bind fun | .ret o => o | .go () => (some true)) else none) else (some false))
def waybilllaw03_whole.l1 (a0 : List (List (BitVec 8))) (a1 : List (List (BitVec 8))) : Nat → (Nat) → Option (Lp ((Bool)) (Unit))
  | 0, _ => none
  | k72 + 1, n70 => (if n70 < a1.length then (a0[n70]?).bind fun x80 => (a1[n70]?).bind fun x92 => ((waybilllaw03_still x80 x92).bind fun x104 => (if x104 = true then (waybilllaw03_whole.l1 a0 a1 k72 (n70 + 1)) else (some (Lp.ret (some false))))) else (some (Lp.go ())))
def waybilllaw03_whole (a0 : List (List (BitVec 8))) (a1 : List (List (BitVec 8))) : Option ((Bool)) := (if a0.length = a1.length then (((waybilllaw03_whole.l1 a0 a1 (a1.length - 0 + 2) 0) : Option (Lp ((Bool)) (Unit))).bind fun | .ret o => o | .go () => (if (a1.length + 2) ≤ (a0 ++ ([[165#8], [90#8]] : List (List (BitVec 8)))).length then (((((a0 ++ ([[165#8], [90#8]] : List (List (BitVec 8)))).take (a1.length + 2))[a1.length]?).bind fun x33 => ((waybilllaw03_same x33 ([165#8] : List (BitVec 8))).bind fun x48 => (if x48 = true then (((a0 ++ ([[165#8], [90#8]] : List (List (BitVec 8)))).take (a1.length + 2))[(a1.length + 1)]?).bind fun x52 => ((waybilllaw03_same x52 ([90#8] : List (BitVec 8))).bind fun x67 => (some ((x67)))) else (some (false)))) : Option ((Bool))).bind fun p27 => (some (p27))) else none)) else (some false))
end Go.Fw
