/-
  NARROWER THAN 'FOR EVERY INPUT', by the rows' own cells (each row's printed sentence says how): BloomOf: laid · BloomAdds: laid · BloomHolds: laid · BloomJoins: laid · BloomMany: laid.
  DERIVED. THE GIVEN ROWS OF THIS SEAT. 5 by the template 'for every input the law returns true; each argument reads behind the call as it read before'; 0 by the template 'total and deterministic' (their statements: YtmfeghmggcpngaaDoorTotals.lean).
  GIVEN WITH THE SEED: the statements are not yours to turn. If you find one false, say at which input.
  Laid BY PROGRAM, IN A SANDBOX (cutbox-rows.mjs): the forced cells as the released guide's own fill.sh prints them over the translation 496e0c988232bbd0… (all of the seat's roots in one cut). By AI agents, Wed Nov 11 2026. No macro, syntax, notation, axiom, sorry.
-/
import Derived.Test.YtmfeghmggcpngaaDoorChecked
import GoSem.Claim
import GoSem.ClaimJoined
import GoSem.ClaimMapViews
import Derived.JoinedTies
import Derived.KernelRfl
namespace Go.Proofs.YtmfeghmggcpngaaDoor
/- THE CELL 'sum', in the pinned program and in every row, IS THE sha256 OF THE DUMP (.gsa) THAT YtmfeghmggcpngaaDoorProg.lean LOADS. Nothing in Lean hashes anything: it is a label: what it is worth is what the hold of that sum in a sandbox is worth. -/
noncomputable def Tryd.pinned : Pinned := { name := "ytmfeghmggcpngaadoor", sum := "496e0c988232bbd0c478d60392012e1cb153c4a3ab7335969294bef92511ee16", checked := Tryd.checked }
namespace Rows
def none {H : Type} : Left H := { results := [], args := [] }

/- WHAT THE LISTED PACKAGE-LEVEL VARIABLES READ AS WHEN THE CALL BEGINS. Each datum BY PROGRAM (the guide's laid-datum.mjs) off the statement by which the dump's own 'gosem.cut.vars' lays the variable. In a bare row this is a premise. The card (YtmfeghmggcpngaaDoorCards.lean) ties it to the program's text. -/
def laid_waybill_keccak_first {H : Type} : DataW H := .agg [.lit (.int .u8 1), .lit (.int .u8 6)]
def laid_waybill_waybillref02_rounds {H : Type} : DataW H := .agg [.lit (.int .u64 1), .lit (.int .u64 32898), .lit (.int .u64 9223372036854808714), .lit (.int .u64 9223372039002292224), .lit (.int .u64 32907), .lit (.int .u64 2147483649), .lit (.int .u64 9223372039002292353), .lit (.int .u64 9223372036854808585), .lit (.int .u64 138), .lit (.int .u64 136), .lit (.int .u64 2147516425), .lit (.int .u64 2147483658), .lit (.int .u64 2147516555), .lit (.int .u64 9223372036854775947), .lit (.int .u64 9223372036854808713), .lit (.int .u64 9223372036854808579), .lit (.int .u64 9223372036854808578), .lit (.int .u64 9223372036854775936), .lit (.int .u64 32778), .lit (.int .u64 9223372039002259466), .lit (.int .u64 9223372039002292353), .lit (.int .u64 9223372036854808704), .lit (.int .u64 2147483649), .lit (.int .u64 9223372039002292232)]
def laid_waybill_waybillref02_turns {H : Type} : DataW H := .agg [.lit (.int .i64 0), .lit (.int .i64 1), .lit (.int .i64 62), .lit (.int .i64 28), .lit (.int .i64 27), .lit (.int .i64 36), .lit (.int .i64 44), .lit (.int .i64 6), .lit (.int .i64 55), .lit (.int .i64 20), .lit (.int .i64 3), .lit (.int .i64 10), .lit (.int .i64 43), .lit (.int .i64 25), .lit (.int .i64 39), .lit (.int .i64 41), .lit (.int .i64 45), .lit (.int .i64 15), .lit (.int .i64 21), .lit (.int .i64 8), .lit (.int .i64 18), .lit (.int .i64 2), .lit (.int .i64 61), .lit (.int .i64 56), .lit (.int .i64 14)]

/-- 'waybilllaw10.BloomOf': WHATEVER THE INPUT: true; the input reads as it did. -/
def bloomOfSpec : ChangeSpec := { name := "bloomOf", fn := fun _ => fun
  | [d] => { results := [.lit (.bool true)], args := [d] }
  | _ => none }
def bloomOfRow : OpenClaim := { program := "ytmfeghmggcpngaadoor", sum := "496e0c988232bbd0c478d60392012e1cb153c4a3ab7335969294bef92511ee16", func := "waybill/waybilllaw10.BloomOf", spec := "bloomOf", named := ["waybill/keccak.first", "waybill/waybillref02.rounds", "waybill/waybillref02.turns"], apart := false, laid := [("waybill/keccak.first", laid_waybill_keccak_first), ("waybill/waybillref02.rounds", laid_waybill_waybillref02_rounds), ("waybill/waybillref02.turns", laid_waybill_waybillref02_turns)] }
def BloomOfSaid : Prop := bloomOfRow.holds Tryd.pinned (OpenSpec.ofChange bloomOfSpec)

/-- ITS FALSE NEIGHBOUR: 'it returns false'. Refute it at one input. -/
def bloomOfWrong : ChangeSpec := { name := "bloomOf", fn := fun _ => fun
  | [d] => { results := [.lit (.bool false)], args := [d] }
  | _ => none }
def BloomOfWrongFalsely : Prop := bloomOfRow.holds Tryd.pinned (OpenSpec.ofChange bloomOfWrong)

/-- 'waybilllaw10.BloomAdds': WHATEVER THE INPUT: true; the input reads as it did. -/
def bloomAddsSpec : ChangeSpec := { name := "bloomAdds", fn := fun _ => fun
  | [d1, d2] => { results := [.lit (.bool true)], args := [d1, d2] }
  | _ => none }
def bloomAddsRow : OpenClaim := { program := "ytmfeghmggcpngaadoor", sum := "496e0c988232bbd0c478d60392012e1cb153c4a3ab7335969294bef92511ee16", func := "waybill/waybilllaw10.BloomAdds", spec := "bloomAdds", named := ["waybill/keccak.first", "waybill/waybillref02.rounds", "waybill/waybillref02.turns"], apart := false, laid := [("waybill/keccak.first", laid_waybill_keccak_first), ("waybill/waybillref02.rounds", laid_waybill_waybillref02_rounds), ("waybill/waybillref02.turns", laid_waybill_waybillref02_turns)] }
def BloomAddsSaid : Prop := bloomAddsRow.holds Tryd.pinned (OpenSpec.ofChange bloomAddsSpec)

/-- ITS FALSE NEIGHBOUR: 'it returns false'. Refute it at one input. -/
def bloomAddsWrong : ChangeSpec := { name := "bloomAdds", fn := fun _ => fun
  | [d1, d2] => { results := [.lit (.bool false)], args := [d1, d2] }
  | _ => none }
def BloomAddsWrongFalsely : Prop := bloomAddsRow.holds Tryd.pinned (OpenSpec.ofChange bloomAddsWrong)

/-- 'waybilllaw10.BloomHolds': WHATEVER THE INPUT: true; the input reads as it did. -/
def bloomHoldsSpec : ChangeSpec := { name := "bloomHolds", fn := fun _ => fun
  | [d1, d2] => { results := [.lit (.bool true)], args := [d1, d2] }
  | _ => none }
def bloomHoldsRow : OpenClaim := { program := "ytmfeghmggcpngaadoor", sum := "496e0c988232bbd0c478d60392012e1cb153c4a3ab7335969294bef92511ee16", func := "waybill/waybilllaw10.BloomHolds", spec := "bloomHolds", named := ["waybill/keccak.first"], apart := false, laid := [("waybill/keccak.first", laid_waybill_keccak_first)] }
def BloomHoldsSaid : Prop := bloomHoldsRow.holds Tryd.pinned (OpenSpec.ofChange bloomHoldsSpec)

/-- ITS FALSE NEIGHBOUR: 'it returns false'. Refute it at one input. -/
def bloomHoldsWrong : ChangeSpec := { name := "bloomHolds", fn := fun _ => fun
  | [d1, d2] => { results := [.lit (.bool false)], args := [d1, d2] }
  | _ => none }
def BloomHoldsWrongFalsely : Prop := bloomHoldsRow.holds Tryd.pinned (OpenSpec.ofChange bloomHoldsWrong)

/-- 'waybilllaw10.BloomJoins': WHATEVER THE INPUT: true; the input reads as it did. -/
def bloomJoinsSpec : ChangeSpec := { name := "bloomJoins", fn := fun _ => fun
  | [d1, d2] => { results := [.lit (.bool true)], args := [d1, d2] }
  | _ => none }
def bloomJoinsRow : OpenClaim := { program := "ytmfeghmggcpngaadoor", sum := "496e0c988232bbd0c478d60392012e1cb153c4a3ab7335969294bef92511ee16", func := "waybill/waybilllaw10.BloomJoins", spec := "bloomJoins", named := ["waybill/keccak.first"], apart := false, laid := [("waybill/keccak.first", laid_waybill_keccak_first)] }
def BloomJoinsSaid : Prop := bloomJoinsRow.holds Tryd.pinned (OpenSpec.ofChange bloomJoinsSpec)

/-- ITS FALSE NEIGHBOUR: 'it returns false'. Refute it at one input. -/
def bloomJoinsWrong : ChangeSpec := { name := "bloomJoins", fn := fun _ => fun
  | [d1, d2] => { results := [.lit (.bool false)], args := [d1, d2] }
  | _ => none }
def BloomJoinsWrongFalsely : Prop := bloomJoinsRow.holds Tryd.pinned (OpenSpec.ofChange bloomJoinsWrong)

/-- 'waybilllaw10.BloomMany': WHATEVER THE INPUT: true; the input reads as it did. -/
def bloomManySpec : ChangeSpec := { name := "bloomMany", fn := fun _ => fun
  | [d] => { results := [.lit (.bool true)], args := [d] }
  | _ => none }
def bloomManyRow : OpenClaim := { program := "ytmfeghmggcpngaadoor", sum := "496e0c988232bbd0c478d60392012e1cb153c4a3ab7335969294bef92511ee16", func := "waybill/waybilllaw10.BloomMany", spec := "bloomMany", inPlace := ["(*sync.WaitGroup).Add", "internal/race.ReleaseMerge", "internal/race.Disable", "internal/race.Enable", "internal/synctest.IsInBubble", "internal/synctest.Associate[sync.WaitGroup]", "sync.fatal", "sync/atomic.OrUint64", "sync/atomic.AddUint64", "internal/race.Read", "sync/atomic.LoadUint64", "sync/atomic.StoreUint64", "internal/synctest.Disassociate[sync.WaitGroup]", "sync.runtime_Semrelease", "(*sync.WaitGroup).Done", "(*sync.WaitGroup).Wait", "internal/race.Acquire", "internal/synctest.IsAssociated[sync.WaitGroup]", "sync/atomic.CompareAndSwapUint64", "internal/race.Write", "sync.runtime_SemacquireWaitGroup"], unfollowed := true, recurses := true, named := ["waybill/keccak.first", "waybill/waybillref02.rounds", "waybill/waybillref02.turns"], leaving := true, apart := false, laid := [("waybill/keccak.first", laid_waybill_keccak_first), ("waybill/waybillref02.rounds", laid_waybill_waybillref02_rounds), ("waybill/waybillref02.turns", laid_waybill_waybillref02_turns)] }
def BloomManySaid : Prop := bloomManyRow.holds Tryd.pinned (OpenSpec.ofChange bloomManySpec)

/-- ITS FALSE NEIGHBOUR: 'it returns false'. Refute it at one input. -/
def bloomManyWrong : ChangeSpec := { name := "bloomMany", fn := fun _ => fun
  | [d] => { results := [.lit (.bool false)], args := [d] }
  | _ => none }
def BloomManyWrongFalsely : Prop := bloomManyRow.holds Tryd.pinned (OpenSpec.ofChange bloomManyWrong)

/- THE SECOND FORM. 'bulk': how many values and letters a reading holds, each counted each time it is reached (what is shared counts as often as it is met; a slice's spare places count too). A statement '..UptoSaid' is the law's where the arguments, and the package variables that the reading takes, are together of bulk at most 1048576: NARROWER than '..Said'. Prove '..Said' where nothing that the law and all that it calls make is longer than what came in: it says more and counts as full. Else prove '..UptoSaid'. A law counts once. -/
mutual
def uptoBulk {H : Type} : DataW H → Nat
  | .lit (.string bytes) => bytes.length + 1
  | .lit _ => 1
  | .nil => 1
  | .ptr d => uptoBulk d + 1
  | .slice elems spare => uptoBulkAll elems + uptoBulkAll spare + 1
  | .agg parts => uptoBulkAll parts + 1
  | .iface _ d => uptoBulk d + 1
  | .map entries => uptoBulkEntries entries + 1
  | .held _ => 1
def uptoBulkAll {H : Type} : List (DataW H) → Nat
  | [] => 0
  | d :: r => uptoBulk d + uptoBulkAll r
def uptoBulkEntries {H : Type} : List (Lit × DataW H) → Nat
  | [] => 0
  | x :: r => uptoBulkEntry x + uptoBulkEntries r
def uptoBulkEntry {H : Type} : Lit × DataW H → Nat
  | (.string bytes, d) => bytes.length + uptoBulk d + 1
  | (_, d) => uptoBulk d + 1
 end
def uptoSmall : (H : Type) → List (DataW H) → Bool := fun _ ds => decide (uptoBulkAll ds ≤ 1048576)
def OpenSpec.upto (s : _root_.Go.ChangeSpec) : _root_.Go.OpenSpec := { _root_.Go.OpenSpec.ofChange s with cond := some uptoSmall }

/-- 'waybilllaw10.BloomOf', WHERE WHAT IT READS IS OF BULK AT MOST 1048576: true; the input reads as it did. -/
def bloomOfUptoRow : OpenClaim := { program := "ytmfeghmggcpngaadoor", sum := "496e0c988232bbd0c478d60392012e1cb153c4a3ab7335969294bef92511ee16", func := "waybill/waybilllaw10.BloomOf", spec := "bloomOf", named := ["waybill/keccak.first", "waybill/waybillref02.rounds", "waybill/waybillref02.turns"], apart := false, laid := [("waybill/keccak.first", laid_waybill_keccak_first), ("waybill/waybillref02.rounds", laid_waybill_waybillref02_rounds), ("waybill/waybillref02.turns", laid_waybill_waybillref02_turns)], narrowed := true }
def BloomOfUptoSaid : Prop := bloomOfUptoRow.holds Tryd.pinned (OpenSpec.upto bloomOfSpec)

/-- 'waybilllaw10.BloomAdds', WHERE WHAT IT READS IS OF BULK AT MOST 1048576: true; the input reads as it did. -/
def bloomAddsUptoRow : OpenClaim := { program := "ytmfeghmggcpngaadoor", sum := "496e0c988232bbd0c478d60392012e1cb153c4a3ab7335969294bef92511ee16", func := "waybill/waybilllaw10.BloomAdds", spec := "bloomAdds", named := ["waybill/keccak.first", "waybill/waybillref02.rounds", "waybill/waybillref02.turns"], apart := false, laid := [("waybill/keccak.first", laid_waybill_keccak_first), ("waybill/waybillref02.rounds", laid_waybill_waybillref02_rounds), ("waybill/waybillref02.turns", laid_waybill_waybillref02_turns)], narrowed := true }
def BloomAddsUptoSaid : Prop := bloomAddsUptoRow.holds Tryd.pinned (OpenSpec.upto bloomAddsSpec)

/-- 'waybilllaw10.BloomHolds', WHERE WHAT IT READS IS OF BULK AT MOST 1048576: true; the input reads as it did. -/
def bloomHoldsUptoRow : OpenClaim := { program := "ytmfeghmggcpngaadoor", sum := "496e0c988232bbd0c478d60392012e1cb153c4a3ab7335969294bef92511ee16", func := "waybill/waybilllaw10.BloomHolds", spec := "bloomHolds", named := ["waybill/keccak.first"], apart := false, laid := [("waybill/keccak.first", laid_waybill_keccak_first)], narrowed := true }
def BloomHoldsUptoSaid : Prop := bloomHoldsUptoRow.holds Tryd.pinned (OpenSpec.upto bloomHoldsSpec)

/-- 'waybilllaw10.BloomJoins', WHERE WHAT IT READS IS OF BULK AT MOST 1048576: true; the input reads as it did. -/
def bloomJoinsUptoRow : OpenClaim := { program := "ytmfeghmggcpngaadoor", sum := "496e0c988232bbd0c478d60392012e1cb153c4a3ab7335969294bef92511ee16", func := "waybill/waybilllaw10.BloomJoins", spec := "bloomJoins", named := ["waybill/keccak.first"], apart := false, laid := [("waybill/keccak.first", laid_waybill_keccak_first)], narrowed := true }
def BloomJoinsUptoSaid : Prop := bloomJoinsUptoRow.holds Tryd.pinned (OpenSpec.upto bloomJoinsSpec)

/-- 'waybilllaw10.BloomMany', WHERE WHAT IT READS IS OF BULK AT MOST 1048576: true; the input reads as it did. -/
def bloomManyUptoRow : OpenClaim := { program := "ytmfeghmggcpngaadoor", sum := "496e0c988232bbd0c478d60392012e1cb153c4a3ab7335969294bef92511ee16", func := "waybill/waybilllaw10.BloomMany", spec := "bloomMany", inPlace := ["(*sync.WaitGroup).Add", "internal/race.ReleaseMerge", "internal/race.Disable", "internal/race.Enable", "internal/synctest.IsInBubble", "internal/synctest.Associate[sync.WaitGroup]", "sync.fatal", "sync/atomic.OrUint64", "sync/atomic.AddUint64", "internal/race.Read", "sync/atomic.LoadUint64", "sync/atomic.StoreUint64", "internal/synctest.Disassociate[sync.WaitGroup]", "sync.runtime_Semrelease", "(*sync.WaitGroup).Done", "(*sync.WaitGroup).Wait", "internal/race.Acquire", "internal/synctest.IsAssociated[sync.WaitGroup]", "sync/atomic.CompareAndSwapUint64", "internal/race.Write", "sync.runtime_SemacquireWaitGroup"], unfollowed := true, recurses := true, named := ["waybill/keccak.first", "waybill/waybillref02.rounds", "waybill/waybillref02.turns"], leaving := true, apart := false, laid := [("waybill/keccak.first", laid_waybill_keccak_first), ("waybill/waybillref02.rounds", laid_waybill_waybillref02_rounds), ("waybill/waybillref02.turns", laid_waybill_waybillref02_turns)], narrowed := true }
def BloomManyUptoSaid : Prop := bloomManyUptoRow.holds Tryd.pinned (OpenSpec.upto bloomManySpec)

end Rows
end Go.Proofs.YtmfeghmggcpngaaDoor
