/- Part of a proof: rules that its law uses. -/
import Derived.Test.YtpkcehpoohmbfaaDoorRlpP2
namespace Go.Fw
set_option linter.unusedVariables false
set_option maxRecDepth 100000
def rlp_Number (a0 : Vector (BitVec 64) 4) : Option ((It)) := ((u256_Bytes a0).bind fun x4 => (some (It.mk false x4 ([] : List (It)))))
def waybillref07_Number (a0 : Vector (BitVec 64) 4) : Option ((It)) := ((waybillref01_Bytes a0).bind fun x4 => (some (It.mk false x4 ([] : List (It)))))
def rlp_Small (a0 : BitVec 64) : Option ((It)) := ((u256_From a0).bind fun x3 => ((rlp_Number x3).bind fun x7 => (some x7)))
def waybillref07_Small (a0 : BitVec 64) : Option ((It)) := ((waybillref01_From a0).bind fun x3 => ((waybillref07_Number x3).bind fun x7 => (some x7)))
def rlp_List (a0 : List (It)) : Option ((It)) := ((rlp_twin a0).bind fun x4 => (some (It.mk true ([] : List (BitVec 8)) x4)))
def waybillref07_List (a0 : List (It)) : Option ((It)) := ((waybillref07_Copy a0).bind fun x4 => (some (It.mk true ([] : List (BitVec 8)) x4)))
def rlp_GetText (a0 : It) : Option ((List (BitVec 8)) × (Nat)) := ((rlp_kind a0 false).bind fun x15 => (if x15 = 0 then ((rlp_clone a0.data).bind fun x21 => (some (x21, 0))) else (some (([] : List (BitVec 8)), x15))))
def waybillref07_GetText (a0 : It) : Option ((List (BitVec 8)) × (Nat)) := ((waybillref07_wanted a0 false).bind fun x15 => (if x15 = 0 then ((waybillref07_bytes a0.data).bind fun x21 => (some (x21, 0))) else (some (([] : List (BitVec 8)), x15))))
def rlp_number (a0 : It) (a1 : Int) : Option ((Vector (BitVec 64) 4) × (Nat)) := ((rlp_kind a0 false).bind fun x16 => (if x16 = 0 then (if a1 < ((a0.data.length : Nat) : Int) then (some ((Vector.replicate 4 0#64), 77)) else ((u256_Strict a0.data).bind fun (x23, x24) => (if x24 = 0 then (some (x23, 0)) else (some ((Vector.replicate 4 0#64), 76))))) else (some ((Vector.replicate 4 0#64), x16))))
def waybillref07_narrow (a0 : It) (a1 : Int) : Option ((Vector (BitVec 64) 4) × (Nat)) := ((waybillref07_wanted a0 false).bind fun x16 => (if x16 = 0 then (if a1 < ((a0.data.length : Nat) : Int) then (some ((Vector.replicate 4 0#64), 77)) else (((if 0 < a0.data.length then (a0.data[0]?).bind fun x39 => (some ((decide (x39 = 0#8)))) else (some (false))) : Option ((Bool))).bind fun p24 => (if p24 = true then (some ((Vector.replicate 4 0#64), 76)) else ((waybillref01_Get a0.data).bind fun (x32, x33) => (some (x32, 0)))))) else (some ((Vector.replicate 4 0#64), x16))))
def rlp_GetNumber (a0 : It) : Option ((Vector (BitVec 64) 4) × (Nat)) := ((rlp_number a0 (32 : Int)).bind fun (x16, x17) => (some (x16, x17)))
def waybillref07_GetNumber (a0 : It) : Option ((Vector (BitVec 64) 4) × (Nat)) := ((waybillref07_narrow a0 (32 : Int)).bind fun (x16, x17) => (some (x16, x17)))
def rlp_GetSmall (a0 : It) : Option ((BitVec 64) × (Nat)) := ((rlp_number a0 (8 : Int)).bind fun (x15, x16) => (some (x15[0], x16)))
def waybillref07_GetSmall (a0 : It) : Option ((BitVec 64) × (Nat)) := ((waybillref07_narrow a0 (8 : Int)).bind fun (x15, x16) => (some (x15[0], x16)))
def rlp_GetFixed (a0 : It) (a1 : Int) : Option ((List (BitVec 8)) × (Nat)) := (if a1 < (0 : Int) then (some (([] : List (BitVec 8)), 1)) else ((rlp_kind a0 false).bind fun x16 => (if x16 = 0 then (if ((a0.data.length : Nat) : Int) = a1 then ((rlp_clone a0.data).bind fun x23 => (some (x23, 0))) else (some (([] : List (BitVec 8)), 77))) else (some (([] : List (BitVec 8)), x16)))))
def waybillref07_GetFixed (a0 : It) (a1 : Int) : Option ((List (BitVec 8)) × (Nat)) := (if a1 < (0 : Int) then (some (([] : List (BitVec 8)), 1)) else ((waybillref07_wanted a0 false).bind fun x16 => (if x16 = 0 then (if ((a0.data.length : Nat) : Int) = a1 then ((waybillref07_bytes a0.data).bind fun x23 => (some (x23, 0))) else (some (([] : List (BitVec 8)), 77))) else (some (([] : List (BitVec 8)), x16)))))
def rlp_GetList (a0 : It) : Option ((List (It)) × (Nat)) := ((rlp_kind a0 true).bind fun x15 => (if x15 = 0 then ((rlp_twin a0.items).bind fun x21 => (some (x21, 0))) else (some (([] : List (It)), x15))))
def waybillref07_GetList (a0 : It) : Option ((List (It)) × (Nat)) := ((waybillref07_wanted a0 true).bind fun x15 => (if x15 = 0 then ((waybillref07_Copy a0.items).bind fun x21 => (some (x21, 0))) else (some (([] : List (It)), x15))))
def rlp_Check (a0 : It) : Option ((Nat)) := ((rlp_sound a0).bind fun (x15, x16) => (if x16 = true then (if 1024 < x15 then (some 74) else ((rlp_size a0).bind fun x23 => (if 16777216 < x23 then (some 2) else (some 0)))) else (some 78)))
def waybillref07_Check (a0 : It) : Option ((Nat)) := ((waybillref07_oddly a0).bind fun x15 => (if x15 = true then (some 78) else ((waybillref07_depth a0).bind fun x20 => (if 1024 < x20 then (some 74) else ((waybillref07_size a0).bind fun x26 => (if 16777216 < x26 then (some 2) else (some 0)))))))
def rlp_Size (a0 : It) : Option ((Nat) × (Nat)) := ((rlp_Check a0).bind fun x15 => (if x15 = 0 then ((rlp_size a0).bind fun x21 => (some (x21, 0))) else (some (0, x15))))
def waybillref07_Size (a0 : It) : Option ((Nat) × (Nat)) := ((waybillref07_Check a0).bind fun x15 => (if x15 = 0 then ((waybillref07_size a0).bind fun x21 => (some (x21, 0))) else (some (0, x15))))
def rlp_Encode (a0 : It) : Option ((List (BitVec 8)) × (Nat)) := ((rlp_Check a0).bind fun x15 => (if x15 = 0 then ((rlp_lay ([] : List (BitVec 8)) a0).bind fun x21 => (some (x21, 0))) else (some (([] : List (BitVec 8)), x15))))
def waybillref07_Encode (a0 : It) : Option ((List (BitVec 8)) × (Nat)) := ((waybillref07_Check a0).bind fun x15 => (if x15 = 0 then ((waybillref07_put ([] : List (BitVec 8)) a0).bind fun x21 => (some (x21, 0))) else (some (([] : List (BitVec 8)), x15))))
end Go.Fw
