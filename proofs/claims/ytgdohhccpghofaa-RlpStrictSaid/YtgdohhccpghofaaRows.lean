/-
  NARROWER THAN 'FOR EVERY INPUT', by the rows' own cells (each row's printed sentence says how): RlpMakes: loops · RlpReads: loops · RlpTrees: loops · RlpParts: loops · RlpBack: loops · RlpApart: loops.
  DERIVED. THE GIVEN ROWS OF THIS SEAT. 11 by the template 'for every input the law returns true; each argument reads behind the call as it read before'; 0 by the template 'total and deterministic' (their statements: YtgdohhccpghofaaTotals.lean).
  GIVEN WITH THE SEED: the statements are not yours to turn. If you find one false, say at which input.
  Laid BY PROGRAM, IN A SANDBOX (cutbox-rows.mjs): the forced cells as the released guide's own fill.sh prints them over the translation 3a5c151e4f1b4013… (all of the seat's roots in one cut). By AI agents, Wed Nov 11 2026. No macro, syntax, notation, axiom, sorry.
-/
import Derived.Test.YtgdohhccpghofaaChecked
import GoSem.Claim
import GoSem.ClaimJoined
import GoSem.ClaimMapViews
import Derived.JoinedTies
import Derived.KernelRfl
namespace Go.Proofs.Ytgdohhccpghofaa
/- THE CELL 'sum', in the pinned program and in every row, IS THE sha256 OF THE DUMP (.gsa) THAT YtgdohhccpghofaaProg.lean LOADS. Nothing in Lean hashes anything: it is a label: what it is worth is what the hold of that sum in a sandbox is worth. -/
noncomputable def Try.pinned : Pinned := { name := "ytgdohhccpghofaa", sum := "3a5c151e4f1b401317ec9830251039eb0a64248de41eac6cd44b0e8b541d5e5c", checked := Try.checked }
namespace Rows
def none {H : Type} : Left H := { results := [], args := [] }

/-- 'waybilllaw07.RlpMakes': WHATEVER THE INPUT: true; the input reads as it did. -/
def rlpMakesSpec : ChangeSpec := { name := "rlpMakes", fn := fun _ => fun
  | [d1, d2, d3] => { results := [.lit (.bool true)], args := [d1, d2, d3] }
  | _ => none }
def rlpMakesRow : OpenClaim := { program := "ytgdohhccpghofaa", sum := "3a5c151e4f1b401317ec9830251039eb0a64248de41eac6cd44b0e8b541d5e5c", func := "waybill/waybilllaw07.RlpMakes", spec := "rlpMakes", recurses := true, loops := true, apart := false }
def RlpMakesSaid : Prop := rlpMakesRow.holds Try.pinned (OpenSpec.ofChange rlpMakesSpec)

/-- ITS FALSE NEIGHBOUR: 'it returns false'. Refute it at one input. -/
def rlpMakesWrong : ChangeSpec := { name := "rlpMakes", fn := fun _ => fun
  | [d1, d2, d3] => { results := [.lit (.bool false)], args := [d1, d2, d3] }
  | _ => none }
def RlpMakesWrongFalsely : Prop := rlpMakesRow.holds Try.pinned (OpenSpec.ofChange rlpMakesWrong)

/-- 'waybilllaw07.RlpJoins': WHATEVER THE INPUT: true; the input reads as it did. -/
def rlpJoinsSpec : ChangeSpec := { name := "rlpJoins", fn := fun _ => fun
  | [d] => { results := [.lit (.bool true)], args := [d] }
  | _ => none }
def rlpJoinsRow : OpenClaim := { program := "ytgdohhccpghofaa", sum := "3a5c151e4f1b401317ec9830251039eb0a64248de41eac6cd44b0e8b541d5e5c", func := "waybill/waybilllaw07.RlpJoins", spec := "rlpJoins", apart := false }
def RlpJoinsSaid : Prop := rlpJoinsRow.holds Try.pinned (OpenSpec.ofChange rlpJoinsSpec)

/-- ITS FALSE NEIGHBOUR: 'it returns false'. Refute it at one input. -/
def rlpJoinsWrong : ChangeSpec := { name := "rlpJoins", fn := fun _ => fun
  | [d] => { results := [.lit (.bool false)], args := [d] }
  | _ => none }
def RlpJoinsWrongFalsely : Prop := rlpJoinsRow.holds Try.pinned (OpenSpec.ofChange rlpJoinsWrong)

/-- 'waybilllaw07.RlpReads': WHATEVER THE INPUT: true; the input reads as it did. -/
def rlpReadsSpec : ChangeSpec := { name := "rlpReads", fn := fun _ => fun
  | [d1, d2] => { results := [.lit (.bool true)], args := [d1, d2] }
  | _ => none }
def rlpReadsRow : OpenClaim := { program := "ytgdohhccpghofaa", sum := "3a5c151e4f1b401317ec9830251039eb0a64248de41eac6cd44b0e8b541d5e5c", func := "waybill/waybilllaw07.RlpReads", spec := "rlpReads", recurses := true, loops := true, apart := false }
def RlpReadsSaid : Prop := rlpReadsRow.holds Try.pinned (OpenSpec.ofChange rlpReadsSpec)

/-- ITS FALSE NEIGHBOUR: 'it returns false'. Refute it at one input. -/
def rlpReadsWrong : ChangeSpec := { name := "rlpReads", fn := fun _ => fun
  | [d1, d2] => { results := [.lit (.bool false)], args := [d1, d2] }
  | _ => none }
def RlpReadsWrongFalsely : Prop := rlpReadsRow.holds Try.pinned (OpenSpec.ofChange rlpReadsWrong)

/-- 'waybilllaw07.RlpSplits': WHATEVER THE INPUT: true; the input reads as it did. -/
def rlpSplitsSpec : ChangeSpec := { name := "rlpSplits", fn := fun _ => fun
  | [d] => { results := [.lit (.bool true)], args := [d] }
  | _ => none }
def rlpSplitsRow : OpenClaim := { program := "ytgdohhccpghofaa", sum := "3a5c151e4f1b401317ec9830251039eb0a64248de41eac6cd44b0e8b541d5e5c", func := "waybill/waybilllaw07.RlpSplits", spec := "rlpSplits", inPlace := ["math/bits.Sub64"], apart := false }
def RlpSplitsSaid : Prop := rlpSplitsRow.holds Try.pinned (OpenSpec.ofChange rlpSplitsSpec)

/-- ITS FALSE NEIGHBOUR: 'it returns false'. Refute it at one input. -/
def rlpSplitsWrong : ChangeSpec := { name := "rlpSplits", fn := fun _ => fun
  | [d] => { results := [.lit (.bool false)], args := [d] }
  | _ => none }
def RlpSplitsWrongFalsely : Prop := rlpSplitsRow.holds Try.pinned (OpenSpec.ofChange rlpSplitsWrong)

/-- 'waybilllaw07.RlpTrees': WHATEVER THE INPUT: true; the input reads as it did. -/
def rlpTreesSpec : ChangeSpec := { name := "rlpTrees", fn := fun _ => fun
  | [d] => { results := [.lit (.bool true)], args := [d] }
  | _ => none }
def rlpTreesRow : OpenClaim := { program := "ytgdohhccpghofaa", sum := "3a5c151e4f1b401317ec9830251039eb0a64248de41eac6cd44b0e8b541d5e5c", func := "waybill/waybilllaw07.RlpTrees", spec := "rlpTrees", recurses := true, loops := true, apart := false }
def RlpTreesSaid : Prop := rlpTreesRow.holds Try.pinned (OpenSpec.ofChange rlpTreesSpec)

/-- ITS FALSE NEIGHBOUR: 'it returns false'. Refute it at one input. -/
def rlpTreesWrong : ChangeSpec := { name := "rlpTrees", fn := fun _ => fun
  | [d] => { results := [.lit (.bool false)], args := [d] }
  | _ => none }
def RlpTreesWrongFalsely : Prop := rlpTreesRow.holds Try.pinned (OpenSpec.ofChange rlpTreesWrong)

/-- 'waybilllaw07.RlpDecodes': WHATEVER THE INPUT: true; the input reads as it did. -/
def rlpDecodesSpec : ChangeSpec := { name := "rlpDecodes", fn := fun _ => fun
  | [d] => { results := [.lit (.bool true)], args := [d] }
  | _ => none }
def rlpDecodesRow : OpenClaim := { program := "ytgdohhccpghofaa", sum := "3a5c151e4f1b401317ec9830251039eb0a64248de41eac6cd44b0e8b541d5e5c", func := "waybill/waybilllaw07.RlpDecodes", spec := "rlpDecodes", inPlace := ["math/bits.Sub64"], recurses := true, apart := false }
def RlpDecodesSaid : Prop := rlpDecodesRow.holds Try.pinned (OpenSpec.ofChange rlpDecodesSpec)

/-- ITS FALSE NEIGHBOUR: 'it returns false'. Refute it at one input. -/
def rlpDecodesWrong : ChangeSpec := { name := "rlpDecodes", fn := fun _ => fun
  | [d] => { results := [.lit (.bool false)], args := [d] }
  | _ => none }
def RlpDecodesWrongFalsely : Prop := rlpDecodesRow.holds Try.pinned (OpenSpec.ofChange rlpDecodesWrong)

/-- 'waybilllaw07.RlpStrict': WHATEVER THE INPUT: true; the input reads as it did. -/
def rlpStrictSpec : ChangeSpec := { name := "rlpStrict", fn := fun _ => fun
  | [d1, d2, d3] => { results := [.lit (.bool true)], args := [d1, d2, d3] }
  | _ => none }
def rlpStrictRow : OpenClaim := { program := "ytgdohhccpghofaa", sum := "3a5c151e4f1b401317ec9830251039eb0a64248de41eac6cd44b0e8b541d5e5c", func := "waybill/waybilllaw07.RlpStrict", spec := "rlpStrict", inPlace := ["math/bits.Sub64"], recurses := true, apart := false }
def RlpStrictSaid : Prop := rlpStrictRow.holds Try.pinned (OpenSpec.ofChange rlpStrictSpec)

/-- ITS FALSE NEIGHBOUR: 'it returns false'. Refute it at one input. -/
def rlpStrictWrong : ChangeSpec := { name := "rlpStrict", fn := fun _ => fun
  | [d1, d2, d3] => { results := [.lit (.bool false)], args := [d1, d2, d3] }
  | _ => none }
def RlpStrictWrongFalsely : Prop := rlpStrictRow.holds Try.pinned (OpenSpec.ofChange rlpStrictWrong)

/-- 'waybilllaw07.RlpParts': WHATEVER THE INPUT: true; the input reads as it did. -/
def rlpPartsSpec : ChangeSpec := { name := "rlpParts", fn := fun _ => fun
  | [d1, d2] => { results := [.lit (.bool true)], args := [d1, d2] }
  | _ => none }
def rlpPartsRow : OpenClaim := { program := "ytgdohhccpghofaa", sum := "3a5c151e4f1b401317ec9830251039eb0a64248de41eac6cd44b0e8b541d5e5c", func := "waybill/waybilllaw07.RlpParts", spec := "rlpParts", inPlace := ["math/bits.Sub64"], recurses := true, loops := true, apart := false }
def RlpPartsSaid : Prop := rlpPartsRow.holds Try.pinned (OpenSpec.ofChange rlpPartsSpec)

/-- ITS FALSE NEIGHBOUR: 'it returns false'. Refute it at one input. -/
def rlpPartsWrong : ChangeSpec := { name := "rlpParts", fn := fun _ => fun
  | [d1, d2] => { results := [.lit (.bool false)], args := [d1, d2] }
  | _ => none }
def RlpPartsWrongFalsely : Prop := rlpPartsRow.holds Try.pinned (OpenSpec.ofChange rlpPartsWrong)

/-- 'waybilllaw07.RlpBack': WHATEVER THE INPUT: true; the input reads as it did. -/
def rlpBackSpec : ChangeSpec := { name := "rlpBack", fn := fun _ => fun
  | [d1, d2, d3] => { results := [.lit (.bool true)], args := [d1, d2, d3] }
  | _ => none }
def rlpBackRow : OpenClaim := { program := "ytgdohhccpghofaa", sum := "3a5c151e4f1b401317ec9830251039eb0a64248de41eac6cd44b0e8b541d5e5c", func := "waybill/waybilllaw07.RlpBack", spec := "rlpBack", inPlace := ["math/bits.Sub64"], recurses := true, loops := true, apart := false }
def RlpBackSaid : Prop := rlpBackRow.holds Try.pinned (OpenSpec.ofChange rlpBackSpec)

/-- ITS FALSE NEIGHBOUR: 'it returns false'. Refute it at one input. -/
def rlpBackWrong : ChangeSpec := { name := "rlpBack", fn := fun _ => fun
  | [d1, d2, d3] => { results := [.lit (.bool false)], args := [d1, d2, d3] }
  | _ => none }
def RlpBackWrongFalsely : Prop := rlpBackRow.holds Try.pinned (OpenSpec.ofChange rlpBackWrong)

/-- 'waybilllaw07.RlpApart': WHATEVER THE INPUT: true; the input reads as it did. -/
def rlpApartSpec : ChangeSpec := { name := "rlpApart", fn := fun _ => fun
  | [d] => { results := [.lit (.bool true)], args := [d] }
  | _ => none }
def rlpApartRow : OpenClaim := { program := "ytgdohhccpghofaa", sum := "3a5c151e4f1b401317ec9830251039eb0a64248de41eac6cd44b0e8b541d5e5c", func := "waybill/waybilllaw07.RlpApart", spec := "rlpApart", inPlace := ["math/bits.Sub64"], recurses := true, loops := true, apart := false }
def RlpApartSaid : Prop := rlpApartRow.holds Try.pinned (OpenSpec.ofChange rlpApartSpec)

/-- ITS FALSE NEIGHBOUR: 'it returns false'. Refute it at one input. -/
def rlpApartWrong : ChangeSpec := { name := "rlpApart", fn := fun _ => fun
  | [d] => { results := [.lit (.bool false)], args := [d] }
  | _ => none }
def RlpApartWrongFalsely : Prop := rlpApartRow.holds Try.pinned (OpenSpec.ofChange rlpApartWrong)

/-- 'waybilllaw07.RlpOwn': WHATEVER THE INPUT: true; the input reads as it did. -/
def rlpOwnSpec : ChangeSpec := { name := "rlpOwn", fn := fun _ => fun
  | [d] => { results := [.lit (.bool true)], args := [d] }
  | _ => none }
def rlpOwnRow : OpenClaim := { program := "ytgdohhccpghofaa", sum := "3a5c151e4f1b401317ec9830251039eb0a64248de41eac6cd44b0e8b541d5e5c", func := "waybill/waybilllaw07.RlpOwn", spec := "rlpOwn", inPlace := ["math/bits.Sub64"], recurses := true, apart := false }
def RlpOwnSaid : Prop := rlpOwnRow.holds Try.pinned (OpenSpec.ofChange rlpOwnSpec)

/-- ITS FALSE NEIGHBOUR: 'it returns false'. Refute it at one input. -/
def rlpOwnWrong : ChangeSpec := { name := "rlpOwn", fn := fun _ => fun
  | [d] => { results := [.lit (.bool false)], args := [d] }
  | _ => none }
def RlpOwnWrongFalsely : Prop := rlpOwnRow.holds Try.pinned (OpenSpec.ofChange rlpOwnWrong)

/- THE SECOND FORM. 'bulk': how many values and letters a reading holds, each counted each time it is reached (what is shared counts as often as it is met; a slice's spare places count too). A statement '..UptoSaid' is the law's where the arguments, and the package variables that the reading takes, are together of bulk at most 1048576: NARROWER than '..Said'. Prove '..Said' where nothing that the law and all that it calls make is longer than what came in: it says more and counts as full. Else prove '..UptoSaid'. A law counts once. -/
mutual
def uptoBulk {H : Type} : DataW H → Nat
  | .lit (.string bytes) => bytes.length + 1
  | .lit _ => 1
  | .nil => 1
  | .ptr d => uptoBulk d + 1
  | .slice elems spare => uptoBulkAll elems + uptoBulkAll spare + 1
  | .agg parts => uptoBulkAll parts + 1
  | .iface _ d => uptoBulk d + 1
  | .map entries => uptoBulkEntries entries + 1
  | .held _ => 1
def uptoBulkAll {H : Type} : List (DataW H) → Nat
  | [] => 0
  | d :: r => uptoBulk d + uptoBulkAll r
def uptoBulkEntries {H : Type} : List (Lit × DataW H) → Nat
  | [] => 0
  | x :: r => uptoBulkEntry x + uptoBulkEntries r
def uptoBulkEntry {H : Type} : Lit × DataW H → Nat
  | (.string bytes, d) => bytes.length + uptoBulk d + 1
  | (_, d) => uptoBulk d + 1
 end
def uptoSmall : (H : Type) → List (DataW H) → Bool := fun _ ds => decide (uptoBulkAll ds ≤ 1048576)
def OpenSpec.upto (s : _root_.Go.ChangeSpec) : _root_.Go.OpenSpec := { _root_.Go.OpenSpec.ofChange s with cond := some uptoSmall }

/-- 'waybilllaw07.RlpMakes', WHERE WHAT IT READS IS OF BULK AT MOST 1048576: true; the input reads as it did. -/
def rlpMakesUptoRow : OpenClaim := { program := "ytgdohhccpghofaa", sum := "3a5c151e4f1b401317ec9830251039eb0a64248de41eac6cd44b0e8b541d5e5c", func := "waybill/waybilllaw07.RlpMakes", spec := "rlpMakes", recurses := true, loops := true, apart := false, narrowed := true }
def RlpMakesUptoSaid : Prop := rlpMakesUptoRow.holds Try.pinned (OpenSpec.upto rlpMakesSpec)

/-- 'waybilllaw07.RlpJoins', WHERE WHAT IT READS IS OF BULK AT MOST 1048576: true; the input reads as it did. -/
def rlpJoinsUptoRow : OpenClaim := { program := "ytgdohhccpghofaa", sum := "3a5c151e4f1b401317ec9830251039eb0a64248de41eac6cd44b0e8b541d5e5c", func := "waybill/waybilllaw07.RlpJoins", spec := "rlpJoins", apart := false, narrowed := true }
def RlpJoinsUptoSaid : Prop := rlpJoinsUptoRow.holds Try.pinned (OpenSpec.upto rlpJoinsSpec)

/-- 'waybilllaw07.RlpReads', WHERE WHAT IT READS IS OF BULK AT MOST 1048576: true; the input reads as it did. -/
def rlpReadsUptoRow : OpenClaim := { program := "ytgdohhccpghofaa", sum := "3a5c151e4f1b401317ec9830251039eb0a64248de41eac6cd44b0e8b541d5e5c", func := "waybill/waybilllaw07.RlpReads", spec := "rlpReads", recurses := true, loops := true, apart := false, narrowed := true }
def RlpReadsUptoSaid : Prop := rlpReadsUptoRow.holds Try.pinned (OpenSpec.upto rlpReadsSpec)

/-- 'waybilllaw07.RlpSplits', WHERE WHAT IT READS IS OF BULK AT MOST 1048576: true; the input reads as it did. -/
def rlpSplitsUptoRow : OpenClaim := { program := "ytgdohhccpghofaa", sum := "3a5c151e4f1b401317ec9830251039eb0a64248de41eac6cd44b0e8b541d5e5c", func := "waybill/waybilllaw07.RlpSplits", spec := "rlpSplits", inPlace := ["math/bits.Sub64"], apart := false, narrowed := true }
def RlpSplitsUptoSaid : Prop := rlpSplitsUptoRow.holds Try.pinned (OpenSpec.upto rlpSplitsSpec)

/-- 'waybilllaw07.RlpTrees', WHERE WHAT IT READS IS OF BULK AT MOST 1048576: true; the input reads as it did. -/
def rlpTreesUptoRow : OpenClaim := { program := "ytgdohhccpghofaa", sum := "3a5c151e4f1b401317ec9830251039eb0a64248de41eac6cd44b0e8b541d5e5c", func := "waybill/waybilllaw07.RlpTrees", spec := "rlpTrees", recurses := true, loops := true, apart := false, narrowed := true }
def RlpTreesUptoSaid : Prop := rlpTreesUptoRow.holds Try.pinned (OpenSpec.upto rlpTreesSpec)

/-- 'waybilllaw07.RlpDecodes', WHERE WHAT IT READS IS OF BULK AT MOST 1048576: true; the input reads as it did. -/
def rlpDecodesUptoRow : OpenClaim := { program := "ytgdohhccpghofaa", sum := "3a5c151e4f1b401317ec9830251039eb0a64248de41eac6cd44b0e8b541d5e5c", func := "waybill/waybilllaw07.RlpDecodes", spec := "rlpDecodes", inPlace := ["math/bits.Sub64"], recurses := true, apart := false, narrowed := true }
def RlpDecodesUptoSaid : Prop := rlpDecodesUptoRow.holds Try.pinned (OpenSpec.upto rlpDecodesSpec)

/-- 'waybilllaw07.RlpStrict', WHERE WHAT IT READS IS OF BULK AT MOST 1048576: true; the input reads as it did. -/
def rlpStrictUptoRow : OpenClaim := { program := "ytgdohhccpghofaa", sum := "3a5c151e4f1b401317ec9830251039eb0a64248de41eac6cd44b0e8b541d5e5c", func := "waybill/waybilllaw07.RlpStrict", spec := "rlpStrict", inPlace := ["math/bits.Sub64"], recurses := true, apart := false, narrowed := true }
def RlpStrictUptoSaid : Prop := rlpStrictUptoRow.holds Try.pinned (OpenSpec.upto rlpStrictSpec)

/-- 'waybilllaw07.RlpParts', WHERE WHAT IT READS IS OF BULK AT MOST 1048576: true; the input reads as it did. -/
def rlpPartsUptoRow : OpenClaim := { program := "ytgdohhccpghofaa", sum := "3a5c151e4f1b401317ec9830251039eb0a64248de41eac6cd44b0e8b541d5e5c", func := "waybill/waybilllaw07.RlpParts", spec := "rlpParts", inPlace := ["math/bits.Sub64"], recurses := true, loops := true, apart := false, narrowed := true }
def RlpPartsUptoSaid : Prop := rlpPartsUptoRow.holds Try.pinned (OpenSpec.upto rlpPartsSpec)

/-- 'waybilllaw07.RlpBack', WHERE WHAT IT READS IS OF BULK AT MOST 1048576: true; the input reads as it did. -/
def rlpBackUptoRow : OpenClaim := { program := "ytgdohhccpghofaa", sum := "3a5c151e4f1b401317ec9830251039eb0a64248de41eac6cd44b0e8b541d5e5c", func := "waybill/waybilllaw07.RlpBack", spec := "rlpBack", inPlace := ["math/bits.Sub64"], recurses := true, loops := true, apart := false, narrowed := true }
def RlpBackUptoSaid : Prop := rlpBackUptoRow.holds Try.pinned (OpenSpec.upto rlpBackSpec)

/-- 'waybilllaw07.RlpApart', WHERE WHAT IT READS IS OF BULK AT MOST 1048576: true; the input reads as it did. -/
def rlpApartUptoRow : OpenClaim := { program := "ytgdohhccpghofaa", sum := "3a5c151e4f1b401317ec9830251039eb0a64248de41eac6cd44b0e8b541d5e5c", func := "waybill/waybilllaw07.RlpApart", spec := "rlpApart", inPlace := ["math/bits.Sub64"], recurses := true, loops := true, apart := false, narrowed := true }
def RlpApartUptoSaid : Prop := rlpApartUptoRow.holds Try.pinned (OpenSpec.upto rlpApartSpec)

/-- 'waybilllaw07.RlpOwn', WHERE WHAT IT READS IS OF BULK AT MOST 1048576: true; the input reads as it did. -/
def rlpOwnUptoRow : OpenClaim := { program := "ytgdohhccpghofaa", sum := "3a5c151e4f1b401317ec9830251039eb0a64248de41eac6cd44b0e8b541d5e5c", func := "waybill/waybilllaw07.RlpOwn", spec := "rlpOwn", inPlace := ["math/bits.Sub64"], recurses := true, apart := false, narrowed := true }
def RlpOwnUptoSaid : Prop := rlpOwnUptoRow.holds Try.pinned (OpenSpec.upto rlpOwnSpec)

end Rows
end Go.Proofs.Ytgdohhccpghofaa
