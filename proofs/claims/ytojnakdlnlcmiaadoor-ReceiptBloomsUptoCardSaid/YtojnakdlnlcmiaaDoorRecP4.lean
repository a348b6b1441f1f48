/- Part of a proof: rules that its law uses. -/
import Derived.Test.YtojnakdlnlcmiaaDoorBloP2
import Derived.Test.YtojnakdlnlcmiaaDoorRcL
import Derived.Test.YtojnakdlnlcmiaaDoorFwD
namespace Go.Fw
set_option linter.unusedVariables false
set_option maxRecDepth 100000
def receipt_BloomOf.l2 (a0 : List (Log)) (n30 : Nat) (x71 : Log) : Nat → (List (List (BitVec 8))) → (Nat) → Option ((List (List (BitVec 8))))
  | 0, _, _ => none
  | k113 + 1, l104, n111 => (if n111 < x71.topics.length then (a0[n30]?).bind fun x122 => (x122.topics[n111]?).bind fun x140 => (if (l104.length + ([x140.toList] : List (List (BitVec 8))).length) * 24 ≤ 140737488355328 then (receipt_BloomOf.l2 a0 n30 x71 k113 (l104 ++ ([x140.toList] : List (List (BitVec 8)))) (n111 + 1)) else none) else (some (l104)))
def receipt_BloomOf.l1 (a0 : List (Log)) : Nat → (List (List (BitVec 8))) → (Nat) → Option ((List (List (BitVec 8))))
  | 0, _, _ => none
  | k32 + 1, l23, n30 => (if n30 < a0.length then (a0[n30]?).bind fun x41 => (if (l23.length + ([x41.address.toList] : List (List (BitVec 8))).length) * 24 ≤ 140737488355328 then (a0[n30]?).bind fun x71 => (((receipt_BloomOf.l2 a0 n30 x71 (x71.topics.length - 0 + 2) (l23 ++ ([x41.address.toList] : List (List (BitVec 8)))) 0) : Option ((List (List (BitVec 8))))).bind fun l91 => (receipt_BloomOf.l1 a0 k32 l91 (n30 + 1))) else none) else (some (l23)))
def receipt_BloomOf (a0 : List (Log)) : Option ((Vector (BitVec 8) 256)) := (((receipt_BloomOf.l1 a0 (a0.length - 0 + 2) ([] : List (List (BitVec 8))) 0) : Option ((List (List (BitVec 8))))).bind fun l5 => ((bloom_Of l5).bind fun x20 => (some x20)))
def receipt_among_Address.l1 (a0 : List (Vector (BitVec 8) 20)) (a1 : Vector (BitVec 8) 20) : Nat → (Nat) → Option (Lp ((Bool)) (Unit))
  | 0, _ => none
  | k12 + 1, n10 => (if n10 < a0.length then (a0[n10]?).bind fun x20 => (if a1 = x20 then (some (Lp.ret (some true))) else (receipt_among_Address.l1 a0 a1 k12 (n10 + 1))) else (some (Lp.go ())))
def receipt_among_Address (a0 : List (Vector (BitVec 8) 20)) (a1 : Vector (BitVec 8) 20) : Option ((Bool)) := (((receipt_among_Address.l1 a0 a1 (a0.length - 0 + 2) 0) : Option (Lp ((Bool)) (Unit))).bind fun | .ret o => o | .go () => (some false))
def receipt_among_Hash.l1 (a0 : List (Vector (BitVec 8) 32)) (a1 : Vector (BitVec 8) 32) : Nat → (Nat) → Option (Lp ((Bool)) (Unit))
  | 0, _ => none
  | k12 + 1, n10 => (if n10 < a0.length then (a0[n10]?).bind fun x20 => (if a1 = x20 then (some (Lp.ret (some true))) else (receipt_among_Hash.l1 a0 a1 k12 (n10 + 1))) else (some (Lp.go ())))
def receipt_among_Hash (a0 : List (Vector (BitVec 8) 32)) (a1 : Vector (BitVec 8) 32) : Option ((Bool)) := (((receipt_among_Hash.l1 a0 a1 (a0.length - 0 + 2) 0) : Option (Lp ((Bool)) (Unit))).bind fun | .ret o => o | .go () => (some false))
def receipt_Find.l2 (a2 : List (List (Vector (BitVec 8) 32))) (x33 : Log) : Nat → (Nat) → Option (Lq ((List (Int))) (Unit))
  | 0, _ => none
  | k80 + 1, n78 => (if n78 < a2.length then (a2[n78]?).bind fun x89 => (((if 0 < x89.length then (x33.topics[n78]?).bind fun x113 => ((receipt_among_Hash x89 x113).bind fun x120 => (some ((!x120)))) else (some (false))) : Option ((Bool))).bind fun p104 => (if p104 = true then (some Lq.out) else (receipt_Find.l2 a2 x33 k80 (n78 + 1)))) else (some (Lq.go ())))
def receipt_Find.l1 (a0 : List (Log)) (a1 : List (Vector (BitVec 8) 20)) (a2 : List (List (Vector (BitVec 8) 32))) : Nat → (List (Int)) → (Nat) → Option ((List (Int)))
  | 0, _, _ => none
  | k24 + 1, l17, n22 => (if n22 < a0.length then (a0[n22]?).bind fun x33 => (((if x33.topics.length < a2.length then (some (true)) else (if 0 < a1.length then ((receipt_among_Address a1 x33.address).bind fun x126 => (some ((!x126)))) else (some (false)))) : Option ((Bool))).bind fun p54 => (if p54 = true then (receipt_Find.l1 a0 a1 a2 k24 l17 (n22 + 1)) else (((receipt_Find.l2 a2 x33 (a2.length - 0 + 2) 0) : Option (Lq ((List (Int))) (Unit))).bind fun | .ret o => o | .out => (receipt_Find.l1 a0 a1 a2 k24 l17 (n22 + 1)) | .go () => (if (l17.length + ([n22] : List (Int)).length) * 8 ≤ 140737488355328 then (receipt_Find.l1 a0 a1 a2 k24 (l17 ++ ([n22] : List (Int))) (n22 + 1)) else none)))) else (some (l17)))
def receipt_Find (a0 : List (Log)) (a1 : List (Vector (BitVec 8) 20)) (a2 : List (List (Vector (BitVec 8) 32))) : Option ((List (Int))) := (((receipt_Find.l1 a0 a1 a2 (a0.length - 0 + 2) ([] : List (Int)) 0) : Option ((List (Int)))).bind fun l6 => (some l6))
def waybilllaw17_ReceiptBlooms.l2 (x5 : Vector (BitVec 8) 256) (x116 : Log) : Nat → (Nat) → Option (Lp (Lp ((Bool)) ((Vector (BitVec 8) 256))) (Unit))
  | 0, _ => none
  | k177 + 1, n175 => (if n175 < x116.topics.length then (x116.topics[n175]?).bind fun x185 => ((bloom_Has x5 x185.toList).bind fun x196 => (if x196 = true then (waybilllaw17_ReceiptBlooms.l2 x5 x116 k177 (n175 + 1)) else (some (Lp.ret (some (Lp.ret (some false))))))) else (some (Lp.go ())))
def waybilllaw17_ReceiptBlooms.l1 (a0 : List (Log)) (x5 : Vector (BitVec 8) 256) : Nat → (Int) → (Vector (BitVec 8) 256) → Option (Lp ((Bool)) ((Vector (BitVec 8) 256)))
  | 0, _, _ => none
  | k108 + 1, z105, w107 => (if (0 : Int) ≤ z105 then (a0[(z105).toNat]?).bind fun x116 => ((receipt_BloomOf ([(Log.mk x116.address x116.topics ([(BitVec.ofInt 8 z105)] : List (BitVec 8)))] : List (Log))).bind fun x144 => ((bloom_Union ([w107, x144] : List (Vector (BitVec 8) 256))).bind fun x153 => ((bloom_Has x5 x116.address.toList).bind fun x159 => (if x159 = true then (((waybilllaw17_ReceiptBlooms.l2 x5 x116 (x116.topics.length - 0 + 2) 0) : Option (Lp (Lp ((Bool)) ((Vector (BitVec 8) 256))) (Unit))).bind fun | .ret o => o | .go () => (if -9223372036854775808 ≤ (z105 - (1 : Int)) ∧ (z105 - (1 : Int)) ≤ 9223372036854775807 then (waybilllaw17_ReceiptBlooms.l1 a0 x5 k108 (z105 - (1 : Int)) x153) else none)) else (some (Lp.ret (some false))))))) else (some (Lp.go w107)))
def waybilllaw17_ReceiptBlooms (a0 : List (Log)) (a1 : Vector (BitVec 8) 20) (a2 : Vector (BitVec 8) 32) : Option ((Bool)) := ((receipt_BloomOf a0).bind fun x5 => (((waybilllaw17_ReceiptBlooms.l1 a0 x5 ((((((a0.length : Nat) : Int) - (1 : Int))) - ((0 : Int)) + 2).toNat) (((a0.length : Nat) : Int) - (1 : Int)) (Vector.replicate 256 0#8)) : Option (Lp ((Bool)) ((Vector (BitVec 8) 256)))).bind fun | .ret o => o | .go w14 => ((receipt_Find a0 ([a1] : List (Vector (BitVec 8) 20)) ([([a2] : List (Vector (BitVec 8) 32))] : List (List (Vector (BitVec 8) 32)))).bind fun x36 => (((if 0 < x36.length then ((bloom_Has x5 a1.toList).bind fun x92 => (if x92 = true then ((bloom_Has x5 a2.toList).bind fun x100 => (some ((!x100)))) else (some (true)))) else (some (false))) : Option ((Bool))).bind fun p51 => (if p51 = true then (some false) else (((if x5 = w14 then ((receipt_BloomOf ([] : List (Log))).bind fun x70 => (if x70 = (Vector.replicate 256 0#8) then ((receipt_BloomOf ([(Log.mk (Vector.replicate 20 0#8) ([] : List (Vector (BitVec 8) 32)) ([] : List (BitVec 8)))] : List (Log))).bind fun x84 => (some ((!decide (x84 = (Vector.replicate 256 0#8)))))) else (some (false)))) else (some (false))) : Option ((Bool))).bind fun p62 => (some (p62))))))))
end Go.Fw
