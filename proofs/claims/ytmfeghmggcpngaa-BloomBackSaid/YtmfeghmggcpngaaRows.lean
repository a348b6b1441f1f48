/-
  No cell of these rows narrows 'for every input' (looked for: loops, veiled, ifaces, maps, wideKeys, modest, calm, conditions, laid).
  DERIVED. THE GIVEN ROWS OF THIS SEAT. 3 by the template 'for every input the law returns true; each argument reads behind the call as it read before'; 0 by the template 'total and deterministic' (their statements: YtmfeghmggcpngaaTotals.lean).
  GIVEN WITH THE SEED: the statements are not yours to turn. If you find one false, say at which input.
  Laid BY PROGRAM, IN A SANDBOX (cutbox-rows.mjs): the forced cells as the released guide's own fill.sh prints them over the translation 8782d3b5601c98c4… (all of the seat's roots in one cut). By AI agents, Wed Nov 11 2026. No macro, syntax, notation, axiom, sorry.
-/
import Derived.Test.YtmfeghmggcpngaaChecked
import GoSem.Claim
import GoSem.ClaimJoined
import GoSem.ClaimMapViews
import Derived.JoinedTies
import Derived.KernelRfl
namespace Go.Proofs.Ytmfeghmggcpngaa
/- THE CELL 'sum', in the pinned program and in every row, IS THE sha256 OF THE DUMP (.gsa) THAT YtmfeghmggcpngaaProg.lean LOADS. Nothing in Lean hashes anything: it is a label: what it is worth is what the hold of that sum in a sandbox is worth. -/
noncomputable def Try.pinned : Pinned := { name := "ytmfeghmggcpngaa", sum := "8782d3b5601c98c4cbf2737bc2fe2d8f3b754c844975a40eb4e2a972cb1f527c", checked := Try.checked }
namespace Rows
def none {H : Type} : Left H := { results := [], args := [] }

/-- 'waybilllaw10.BloomMakes': WHATEVER THE INPUT: true; the input reads as it did. -/
def bloomMakesSpec : ChangeSpec := { name := "bloomMakes", fn := fun _ => fun
  | [d] => { results := [.lit (.bool true)], args := [d] }
  | _ => none }
def bloomMakesRow : OpenClaim := { program := "ytmfeghmggcpngaa", sum := "8782d3b5601c98c4cbf2737bc2fe2d8f3b754c844975a40eb4e2a972cb1f527c", func := "waybill/waybilllaw10.BloomMakes", spec := "bloomMakes", apart := false }
def BloomMakesSaid : Prop := bloomMakesRow.holds Try.pinned (OpenSpec.ofChange bloomMakesSpec)

/-- ITS FALSE NEIGHBOUR: 'it returns false'. Refute it at one input. -/
def bloomMakesWrong : ChangeSpec := { name := "bloomMakes", fn := fun _ => fun
  | [d] => { results := [.lit (.bool false)], args := [d] }
  | _ => none }
def BloomMakesWrongFalsely : Prop := bloomMakesRow.holds Try.pinned (OpenSpec.ofChange bloomMakesWrong)

/-- 'waybilllaw10.BloomSets': WHATEVER THE INPUT: true; the input reads as it did. -/
def bloomSetsSpec : ChangeSpec := { name := "bloomSets", fn := fun _ => fun
  | [d1, d2, d3] => { results := [.lit (.bool true)], args := [d1, d2, d3] }
  | _ => none }
def bloomSetsRow : OpenClaim := { program := "ytmfeghmggcpngaa", sum := "8782d3b5601c98c4cbf2737bc2fe2d8f3b754c844975a40eb4e2a972cb1f527c", func := "waybill/waybilllaw10.BloomSets", spec := "bloomSets", apart := false }
def BloomSetsSaid : Prop := bloomSetsRow.holds Try.pinned (OpenSpec.ofChange bloomSetsSpec)

/-- ITS FALSE NEIGHBOUR: 'it returns false'. Refute it at one input. -/
def bloomSetsWrong : ChangeSpec := { name := "bloomSets", fn := fun _ => fun
  | [d1, d2, d3] => { results := [.lit (.bool false)], args := [d1, d2, d3] }
  | _ => none }
def BloomSetsWrongFalsely : Prop := bloomSetsRow.holds Try.pinned (OpenSpec.ofChange bloomSetsWrong)

/-- 'waybilllaw10.BloomBack': WHATEVER THE INPUT: true; the input reads as it did. -/
def bloomBackSpec : ChangeSpec := { name := "bloomBack", fn := fun _ => fun
  | [d1, d2] => { results := [.lit (.bool true)], args := [d1, d2] }
  | _ => none }
def bloomBackRow : OpenClaim := { program := "ytmfeghmggcpngaa", sum := "8782d3b5601c98c4cbf2737bc2fe2d8f3b754c844975a40eb4e2a972cb1f527c", func := "waybill/waybilllaw10.BloomBack", spec := "bloomBack", apart := false }
def BloomBackSaid : Prop := bloomBackRow.holds Try.pinned (OpenSpec.ofChange bloomBackSpec)

/-- ITS FALSE NEIGHBOUR: 'it returns false'. Refute it at one input. -/
def bloomBackWrong : ChangeSpec := { name := "bloomBack", fn := fun _ => fun
  | [d1, d2] => { results := [.lit (.bool false)], args := [d1, d2] }
  | _ => none }
def BloomBackWrongFalsely : Prop := bloomBackRow.holds Try.pinned (OpenSpec.ofChange bloomBackWrong)

/- THE SECOND FORM. 'bulk': how many values and letters a reading holds, each counted each time it is reached (what is shared counts as often as it is met; a slice's spare places count too). A statement '..UptoSaid' is the law's where the arguments, and the package variables that the reading takes, are together of bulk at most 1048576: NARROWER than '..Said'. Prove '..Said' where nothing that the law and all that it calls make is longer than what came in: it says more and counts as full. Else prove '..UptoSaid'. A law counts once. -/
mutual
def uptoBulk {H : Type} : DataW H → Nat
  | .lit (.string bytes) => bytes.length + 1
  | .lit _ => 1
  | .nil => 1
  | .ptr d => uptoBulk d + 1
  | .slice elems spare => uptoBulkAll elems + uptoBulkAll spare + 1
  | .agg parts => uptoBulkAll parts + 1
  | .iface _ d => uptoBulk d + 1
  | .map entries => uptoBulkEntries entries + 1
  | .held _ => 1
def uptoBulkAll {H : Type} : List (DataW H) → Nat
  | [] => 0
  | d :: r => uptoBulk d + uptoBulkAll r
def uptoBulkEntries {H : Type} : List (Lit × DataW H) → Nat
  | [] => 0
  | x :: r => uptoBulkEntry x + uptoBulkEntries r
def uptoBulkEntry {H : Type} : Lit × DataW H → Nat
  | (.string bytes, d) => bytes.length + uptoBulk d + 1
  | (_, d) => uptoBulk d + 1
 end
def uptoSmall : (H : Type) → List (DataW H) → Bool := fun _ ds => decide (uptoBulkAll ds ≤ 1048576)
def OpenSpec.upto (s : _root_.Go.ChangeSpec) : _root_.Go.OpenSpec := { _root_.Go.OpenSpec.ofChange s with cond := some uptoSmall }

/-- 'waybilllaw10.BloomMakes', WHERE WHAT IT READS IS OF BULK AT MOST 1048576: true; the input reads as it did. -/
def bloomMakesUptoRow : OpenClaim := { program := "ytmfeghmggcpngaa", sum := "8782d3b5601c98c4cbf2737bc2fe2d8f3b754c844975a40eb4e2a972cb1f527c", func := "waybill/waybilllaw10.BloomMakes", spec := "bloomMakes", apart := false, narrowed := true }
def BloomMakesUptoSaid : Prop := bloomMakesUptoRow.holds Try.pinned (OpenSpec.upto bloomMakesSpec)

/-- 'waybilllaw10.BloomSets', WHERE WHAT IT READS IS OF BULK AT MOST 1048576: true; the input reads as it did. -/
def bloomSetsUptoRow : OpenClaim := { program := "ytmfeghmggcpngaa", sum := "8782d3b5601c98c4cbf2737bc2fe2d8f3b754c844975a40eb4e2a972cb1f527c", func := "waybill/waybilllaw10.BloomSets", spec := "bloomSets", apart := false, narrowed := true }
def BloomSetsUptoSaid : Prop := bloomSetsUptoRow.holds Try.pinned (OpenSpec.upto bloomSetsSpec)

/-- 'waybilllaw10.BloomBack', WHERE WHAT IT READS IS OF BULK AT MOST 1048576: true; the input reads as it did. -/
def bloomBackUptoRow : OpenClaim := { program := "ytmfeghmggcpngaa", sum := "8782d3b5601c98c4cbf2737bc2fe2d8f3b754c844975a40eb4e2a972cb1f527c", func := "waybill/waybilllaw10.BloomBack", spec := "bloomBack", apart := false, narrowed := true }
def BloomBackUptoSaid : Prop := bloomBackUptoRow.holds Try.pinned (OpenSpec.upto bloomBackSpec)

end Rows
end Go.Proofs.Ytmfeghmggcpngaa
