/-
  NARROWER THAN 'FOR EVERY INPUT', by the rows' own cells (each row's printed sentence says how): KeccakPermutes: laid · KeccakSums: laid · KeccakCuts: laid · KeccakSponges: laid · KeccakMany: laid · KeccakKnown: laid.
  DERIVED. THE GIVEN ROWS OF THIS SEAT. 6 by the template 'for every input the law returns true; each argument reads behind the call as it read before'; 0 by the template 'total and deterministic' (their statements: YtogfjkomkpbjpaaDoorTotals.lean).
  GIVEN WITH THE SEED: the statements are not yours to turn. If you find one false, say at which input.
  Laid BY PROGRAM, IN A SANDBOX (cutbox-rows.mjs): the forced cells as the released guide's own fill.sh prints them over the translation 9aff8903b690eed3… (all of the seat's roots in one cut). By AI agents, Wed Nov 11 2026. No macro, syntax, notation, axiom, sorry.
-/
import Derived.Test.YtogfjkomkpbjpaaDoorChecked
import GoSem.Claim
import GoSem.ClaimJoined
import GoSem.ClaimMapViews
import Derived.JoinedTies
import Derived.KernelRfl
namespace Go.Proofs.YtogfjkomkpbjpaaDoor
/- THE CELL 'sum', in the pinned program and in every row, IS THE sha256 OF THE DUMP (.gsa) THAT YtogfjkomkpbjpaaDoorProg.lean LOADS. Nothing in Lean hashes anything: it is a label: what it is worth is what the hold of that sum in a sandbox is worth. -/
noncomputable def Tryd.pinned : Pinned := { name := "ytogfjkomkpbjpaadoor", sum := "9aff8903b690eed37ce238b69f79cfd48bdc825eb44937fdbdacbfe8fe524a96", checked := Tryd.checked }
namespace Rows
def none {H : Type} : Left H := { results := [], args := [] }

/- WHAT THE LISTED PACKAGE-LEVEL VARIABLES READ AS WHEN THE CALL BEGINS. Each datum BY PROGRAM (the guide's laid-datum.mjs) off the statement by which the dump's own 'gosem.cut.vars' lays the variable. In a bare row this is a premise. The card (YtogfjkomkpbjpaaDoorCards.lean) ties it to the program's text. -/
def laid_waybill_waybillref02_rounds {H : Type} : DataW H := .agg [.lit (.int .u64 1), .lit (.int .u64 32898), .lit (.int .u64 9223372036854808714), .lit (.int .u64 9223372039002292224), .lit (.int .u64 32907), .lit (.int .u64 2147483649), .lit (.int .u64 9223372039002292353), .lit (.int .u64 9223372036854808585), .lit (.int .u64 138), .lit (.int .u64 136), .lit (.int .u64 2147516425), .lit (.int .u64 2147483658), .lit (.int .u64 2147516555), .lit (.int .u64 9223372036854775947), .lit (.int .u64 9223372036854808713), .lit (.int .u64 9223372036854808579), .lit (.int .u64 9223372036854808578), .lit (.int .u64 9223372036854775936), .lit (.int .u64 32778), .lit (.int .u64 9223372039002259466), .lit (.int .u64 9223372039002292353), .lit (.int .u64 9223372036854808704), .lit (.int .u64 2147483649), .lit (.int .u64 9223372039002292232)]
def laid_waybill_waybillref02_turns {H : Type} : DataW H := .agg [.lit (.int .i64 0), .lit (.int .i64 1), .lit (.int .i64 62), .lit (.int .i64 28), .lit (.int .i64 27), .lit (.int .i64 36), .lit (.int .i64 44), .lit (.int .i64 6), .lit (.int .i64 55), .lit (.int .i64 20), .lit (.int .i64 3), .lit (.int .i64 10), .lit (.int .i64 43), .lit (.int .i64 25), .lit (.int .i64 39), .lit (.int .i64 41), .lit (.int .i64 45), .lit (.int .i64 15), .lit (.int .i64 21), .lit (.int .i64 8), .lit (.int .i64 18), .lit (.int .i64 2), .lit (.int .i64 61), .lit (.int .i64 56), .lit (.int .i64 14)]
def laid_waybill_keccak_first {H : Type} : DataW H := .agg [.lit (.int .u8 1), .lit (.int .u8 6)]

/-- 'waybilllaw02.KeccakPermutes': WHATEVER THE INPUT: true; the input reads as it did. -/
def keccakPermutesSpec : ChangeSpec := { name := "keccakPermutes", fn := fun _ => fun
  | [d] => { results := [.lit (.bool true)], args := [d] }
  | _ => none }
def keccakPermutesRow : OpenClaim := { program := "ytogfjkomkpbjpaadoor", sum := "9aff8903b690eed37ce238b69f79cfd48bdc825eb44937fdbdacbfe8fe524a96", func := "waybill/waybilllaw02.KeccakPermutes", spec := "keccakPermutes", named := ["waybill/waybillref02.rounds", "waybill/waybillref02.turns"], apart := false, laid := [("waybill/waybillref02.rounds", laid_waybill_waybillref02_rounds), ("waybill/waybillref02.turns", laid_waybill_waybillref02_turns)] }
def KeccakPermutesSaid : Prop := keccakPermutesRow.holds Tryd.pinned (OpenSpec.ofChange keccakPermutesSpec)

/-- ITS FALSE NEIGHBOUR: 'it returns false'. Refute it at one input. -/
def keccakPermutesWrong : ChangeSpec := { name := "keccakPermutes", fn := fun _ => fun
  | [d] => { results := [.lit (.bool false)], args := [d] }
  | _ => none }
def KeccakPermutesWrongFalsely : Prop := keccakPermutesRow.holds Tryd.pinned (OpenSpec.ofChange keccakPermutesWrong)

/-- 'waybilllaw02.KeccakSums': WHATEVER THE INPUT: true; the input reads as it did. -/
def keccakSumsSpec : ChangeSpec := { name := "keccakSums", fn := fun _ => fun
  | [d] => { results := [.lit (.bool true)], args := [d] }
  | _ => none }
def keccakSumsRow : OpenClaim := { program := "ytogfjkomkpbjpaadoor", sum := "9aff8903b690eed37ce238b69f79cfd48bdc825eb44937fdbdacbfe8fe524a96", func := "waybill/waybilllaw02.KeccakSums", spec := "keccakSums", named := ["waybill/keccak.first", "waybill/waybillref02.rounds", "waybill/waybillref02.turns"], apart := false, laid := [("waybill/keccak.first", laid_waybill_keccak_first), ("waybill/waybillref02.rounds", laid_waybill_waybillref02_rounds), ("waybill/waybillref02.turns", laid_waybill_waybillref02_turns)] }
def KeccakSumsSaid : Prop := keccakSumsRow.holds Tryd.pinned (OpenSpec.ofChange keccakSumsSpec)

/-- ITS FALSE NEIGHBOUR: 'it returns false'. Refute it at one input. -/
def keccakSumsWrong : ChangeSpec := { name := "keccakSums", fn := fun _ => fun
  | [d] => { results := [.lit (.bool false)], args := [d] }
  | _ => none }
def KeccakSumsWrongFalsely : Prop := keccakSumsRow.holds Tryd.pinned (OpenSpec.ofChange keccakSumsWrong)

/-- 'waybilllaw02.KeccakCuts': WHATEVER THE INPUT: true; the input reads as it did. -/
def keccakCutsSpec : ChangeSpec := { name := "keccakCuts", fn := fun _ => fun
  | [d1, d2] => { results := [.lit (.bool true)], args := [d1, d2] }
  | _ => none }
def keccakCutsRow : OpenClaim := { program := "ytogfjkomkpbjpaadoor", sum := "9aff8903b690eed37ce238b69f79cfd48bdc825eb44937fdbdacbfe8fe524a96", func := "waybill/waybilllaw02.KeccakCuts", spec := "keccakCuts", named := ["waybill/keccak.first"], apart := false, laid := [("waybill/keccak.first", laid_waybill_keccak_first)] }
def KeccakCutsSaid : Prop := keccakCutsRow.holds Tryd.pinned (OpenSpec.ofChange keccakCutsSpec)

/-- ITS FALSE NEIGHBOUR: 'it returns false'. Refute it at one input. -/
def keccakCutsWrong : ChangeSpec := { name := "keccakCuts", fn := fun _ => fun
  | [d1, d2] => { results := [.lit (.bool false)], args := [d1, d2] }
  | _ => none }
def KeccakCutsWrongFalsely : Prop := keccakCutsRow.holds Tryd.pinned (OpenSpec.ofChange keccakCutsWrong)

/-- 'waybilllaw02.KeccakSponges': WHATEVER THE INPUT: true; the input reads as it did. -/
def keccakSpongesSpec : ChangeSpec := { name := "keccakSponges", fn := fun _ => fun
  | [d] => { results := [.lit (.bool true)], args := [d] }
  | _ => none }
def keccakSpongesRow : OpenClaim := { program := "ytogfjkomkpbjpaadoor", sum := "9aff8903b690eed37ce238b69f79cfd48bdc825eb44937fdbdacbfe8fe524a96", func := "waybill/waybilllaw02.KeccakSponges", spec := "keccakSponges", named := ["waybill/keccak.first", "waybill/waybillref02.rounds", "waybill/waybillref02.turns"], apart := false, laid := [("waybill/keccak.first", laid_waybill_keccak_first), ("waybill/waybillref02.rounds", laid_waybill_waybillref02_rounds), ("waybill/waybillref02.turns", laid_waybill_waybillref02_turns)] }
def KeccakSpongesSaid : Prop := keccakSpongesRow.holds Tryd.pinned (OpenSpec.ofChange keccakSpongesSpec)

/-- ITS FALSE NEIGHBOUR: 'it returns false'. Refute it at one input. -/
def keccakSpongesWrong : ChangeSpec := { name := "keccakSponges", fn := fun _ => fun
  | [d] => { results := [.lit (.bool false)], args := [d] }
  | _ => none }
def KeccakSpongesWrongFalsely : Prop := keccakSpongesRow.holds Tryd.pinned (OpenSpec.ofChange keccakSpongesWrong)

/-- 'waybilllaw02.KeccakMany': WHATEVER THE INPUT: true; the input reads as it did. -/
def keccakManySpec : ChangeSpec := { name := "keccakMany", fn := fun _ => fun
  | [d] => { results := [.lit (.bool true)], args := [d] }
  | _ => none }
def keccakManyRow : OpenClaim := { program := "ytogfjkomkpbjpaadoor", sum := "9aff8903b690eed37ce238b69f79cfd48bdc825eb44937fdbdacbfe8fe524a96", func := "waybill/waybilllaw02.KeccakMany", spec := "keccakMany", inPlace := ["(*sync.WaitGroup).Add", "internal/race.ReleaseMerge", "internal/race.Disable", "internal/race.Enable", "internal/synctest.IsInBubble", "internal/synctest.Associate[sync.WaitGroup]", "sync.fatal", "sync/atomic.OrUint64", "sync/atomic.AddUint64", "internal/race.Read", "sync/atomic.LoadUint64", "sync/atomic.StoreUint64", "internal/synctest.Disassociate[sync.WaitGroup]", "sync.runtime_Semrelease", "(*sync.WaitGroup).Done", "(*sync.WaitGroup).Wait", "internal/race.Acquire", "internal/synctest.IsAssociated[sync.WaitGroup]", "sync/atomic.CompareAndSwapUint64", "internal/race.Write", "sync.runtime_SemacquireWaitGroup"], unfollowed := true, recurses := true, named := ["waybill/keccak.first", "waybill/waybillref02.rounds", "waybill/waybillref02.turns"], leaving := true, apart := false, laid := [("waybill/keccak.first", laid_waybill_keccak_first), ("waybill/waybillref02.rounds", laid_waybill_waybillref02_rounds), ("waybill/waybillref02.turns", laid_waybill_waybillref02_turns)] }
def KeccakManySaid : Prop := keccakManyRow.holds Tryd.pinned (OpenSpec.ofChange keccakManySpec)

/-- ITS FALSE NEIGHBOUR: 'it returns false'. Refute it at one input. -/
def keccakManyWrong : ChangeSpec := { name := "keccakMany", fn := fun _ => fun
  | [d] => { results := [.lit (.bool false)], args := [d] }
  | _ => none }
def KeccakManyWrongFalsely : Prop := keccakManyRow.holds Tryd.pinned (OpenSpec.ofChange keccakManyWrong)

/-- 'waybilllaw02.KeccakKnown': WHATEVER THE INPUT: true; the input reads as it did. -/
def keccakKnownSpec : ChangeSpec := { name := "keccakKnown", fn := fun _ => fun
  | [] => { results := [.lit (.bool true)], args := [] }
  | _ => none }
def keccakKnownRow : OpenClaim := { program := "ytogfjkomkpbjpaadoor", sum := "9aff8903b690eed37ce238b69f79cfd48bdc825eb44937fdbdacbfe8fe524a96", func := "waybill/waybilllaw02.KeccakKnown", spec := "keccakKnown", inPlace := ["(*sync.WaitGroup).Add", "internal/race.ReleaseMerge", "internal/race.Disable", "internal/race.Enable", "internal/synctest.IsInBubble", "internal/synctest.Associate[sync.WaitGroup]", "sync.fatal", "sync/atomic.OrUint64", "sync/atomic.AddUint64", "internal/race.Read", "sync/atomic.LoadUint64", "sync/atomic.StoreUint64", "internal/synctest.Disassociate[sync.WaitGroup]", "sync.runtime_Semrelease", "(*sync.WaitGroup).Done", "(*sync.WaitGroup).Wait", "internal/race.Acquire", "internal/synctest.IsAssociated[sync.WaitGroup]", "sync/atomic.CompareAndSwapUint64", "internal/race.Write", "sync.runtime_SemacquireWaitGroup"], unfollowed := true, recurses := true, named := ["waybill/keccak.first"], leaving := true, apart := false, laid := [("waybill/keccak.first", laid_waybill_keccak_first)] }
def KeccakKnownSaid : Prop := keccakKnownRow.holds Tryd.pinned (OpenSpec.ofChange keccakKnownSpec)

/-- ITS FALSE NEIGHBOUR: 'it returns false'. Refute it at one input. -/
def keccakKnownWrong : ChangeSpec := { name := "keccakKnown", fn := fun _ => fun
  | [] => { results := [.lit (.bool false)], args := [] }
  | _ => none }
def KeccakKnownWrongFalsely : Prop := keccakKnownRow.holds Tryd.pinned (OpenSpec.ofChange keccakKnownWrong)

/- THE SECOND FORM. 'bulk': how many values and letters a reading holds, each counted each time it is reached (what is shared counts as often as it is met; a slice's spare places count too). A statement '..UptoSaid' is the law's where the arguments, and the package variables that the reading takes, are together of bulk at most 1048576: NARROWER than '..Said'. Prove '..Said' where nothing that the law and all that it calls make is longer than what came in: it says more and counts as full. Else prove '..UptoSaid'. A law counts once. -/
mutual
def uptoBulk {H : Type} : DataW H → Nat
  | .lit (.string bytes) => bytes.length + 1
  | .lit _ => 1
  | .nil => 1
  | .ptr d => uptoBulk d + 1
  | .slice elems spare => uptoBulkAll elems + uptoBulkAll spare + 1
  | .agg parts => uptoBulkAll parts + 1
  | .iface _ d => uptoBulk d + 1
  | .map entries => uptoBulkEntries entries + 1
  | .held _ => 1
def uptoBulkAll {H : Type} : List (DataW H) → Nat
  | [] => 0
  | d :: r => uptoBulk d + uptoBulkAll r
def uptoBulkEntries {H : Type} : List (Lit × DataW H) → Nat
  | [] => 0
  | x :: r => uptoBulkEntry x + uptoBulkEntries r
def uptoBulkEntry {H : Type} : Lit × DataW H → Nat
  | (.string bytes, d) => bytes.length + uptoBulk d + 1
  | (_, d) => uptoBulk d + 1
 end
def uptoSmall : (H : Type) → List (DataW H) → Bool := fun _ ds => decide (uptoBulkAll ds ≤ 1048576)
def OpenSpec.upto (s : _root_.Go.ChangeSpec) : _root_.Go.OpenSpec := { _root_.Go.OpenSpec.ofChange s with cond := some uptoSmall }

/-- 'waybilllaw02.KeccakPermutes', WHERE WHAT IT READS IS OF BULK AT MOST 1048576: true; the input reads as it did. -/
def keccakPermutesUptoRow : OpenClaim := { program := "ytogfjkomkpbjpaadoor", sum := "9aff8903b690eed37ce238b69f79cfd48bdc825eb44937fdbdacbfe8fe524a96", func := "waybill/waybilllaw02.KeccakPermutes", spec := "keccakPermutes", named := ["waybill/waybillref02.rounds", "waybill/waybillref02.turns"], apart := false, laid := [("waybill/waybillref02.rounds", laid_waybill_waybillref02_rounds), ("waybill/waybillref02.turns", laid_waybill_waybillref02_turns)], narrowed := true }
def KeccakPermutesUptoSaid : Prop := keccakPermutesUptoRow.holds Tryd.pinned (OpenSpec.upto keccakPermutesSpec)

/-- 'waybilllaw02.KeccakSums', WHERE WHAT IT READS IS OF BULK AT MOST 1048576: true; the input reads as it did. -/
def keccakSumsUptoRow : OpenClaim := { program := "ytogfjkomkpbjpaadoor", sum := "9aff8903b690eed37ce238b69f79cfd48bdc825eb44937fdbdacbfe8fe524a96", func := "waybill/waybilllaw02.KeccakSums", spec := "keccakSums", named := ["waybill/keccak.first", "waybill/waybillref02.rounds", "waybill/waybillref02.turns"], apart := false, laid := [("waybill/keccak.first", laid_waybill_keccak_first), ("waybill/waybillref02.rounds", laid_waybill_waybillref02_rounds), ("waybill/waybillref02.turns", laid_waybill_waybillref02_turns)], narrowed := true }
def KeccakSumsUptoSaid : Prop := keccakSumsUptoRow.holds Tryd.pinned (OpenSpec.upto keccakSumsSpec)

/-- 'waybilllaw02.KeccakCuts', WHERE WHAT IT READS IS OF BULK AT MOST 1048576: true; the input reads as it did. -/
def keccakCutsUptoRow : OpenClaim := { program := "ytogfjkomkpbjpaadoor", sum := "9aff8903b690eed37ce238b69f79cfd48bdc825eb44937fdbdacbfe8fe524a96", func := "waybill/waybilllaw02.KeccakCuts", spec := "keccakCuts", named := ["waybill/keccak.first"], apart := false, laid := [("waybill/keccak.first", laid_waybill_keccak_first)], narrowed := true }
def KeccakCutsUptoSaid : Prop := keccakCutsUptoRow.holds Tryd.pinned (OpenSpec.upto keccakCutsSpec)

/-- 'waybilllaw02.KeccakSponges', WHERE WHAT IT READS IS OF BULK AT MOST 1048576: true; the input reads as it did. -/
def keccakSpongesUptoRow : OpenClaim := { program := "ytogfjkomkpbjpaadoor", sum := "9aff8903b690eed37ce238b69f79cfd48bdc825eb44937fdbdacbfe8fe524a96", func := "waybill/waybilllaw02.KeccakSponges", spec := "keccakSponges", named := ["waybill/keccak.first", "waybill/waybillref02.rounds", "waybill/waybillref02.turns"], apart := false, laid := [("waybill/keccak.first", laid_waybill_keccak_first), ("waybill/waybillref02.rounds", laid_waybill_waybillref02_rounds), ("waybill/waybillref02.turns", laid_waybill_waybillref02_turns)], narrowed := true }
def KeccakSpongesUptoSaid : Prop := keccakSpongesUptoRow.holds Tryd.pinned (OpenSpec.upto keccakSpongesSpec)

/-- 'waybilllaw02.KeccakMany', WHERE WHAT IT READS IS OF BULK AT MOST 1048576: true; the input reads as it did. -/
def keccakManyUptoRow : OpenClaim := { program := "ytogfjkomkpbjpaadoor", sum := "9aff8903b690eed37ce238b69f79cfd48bdc825eb44937fdbdacbfe8fe524a96", func := "waybill/waybilllaw02.KeccakMany", spec := "keccakMany", inPlace := ["(*sync.WaitGroup).Add", "internal/race.ReleaseMerge", "internal/race.Disable", "internal/race.Enable", "internal/synctest.IsInBubble", "internal/synctest.Associate[sync.WaitGroup]", "sync.fatal", "sync/atomic.OrUint64", "sync/atomic.AddUint64", "internal/race.Read", "sync/atomic.LoadUint64", "sync/atomic.StoreUint64", "internal/synctest.Disassociate[sync.WaitGroup]", "sync.runtime_Semrelease", "(*sync.WaitGroup).Done", "(*sync.WaitGroup).Wait", "internal/race.Acquire", "internal/synctest.IsAssociated[sync.WaitGroup]", "sync/atomic.CompareAndSwapUint64", "internal/race.Write", "sync.runtime_SemacquireWaitGroup"], unfollowed := true, recurses := true, named := ["waybill/keccak.first", "waybill/waybillref02.rounds", "waybill/waybillref02.turns"], leaving := true, apart := false, laid := [("waybill/keccak.first", laid_waybill_keccak_first), ("waybill/waybillref02.rounds", laid_waybill_waybillref02_rounds), ("waybill/waybillref02.turns", laid_waybill_waybillref02_turns)], narrowed := true }
def KeccakManyUptoSaid : Prop := keccakManyUptoRow.holds Tryd.pinned (OpenSpec.upto keccakManySpec)

/-- 'waybilllaw02.KeccakKnown', WHERE WHAT IT READS IS OF BULK AT MOST 1048576: true; the input reads as it did. -/
def keccakKnownUptoRow : OpenClaim := { program := "ytogfjkomkpbjpaadoor", sum := "9aff8903b690eed37ce238b69f79cfd48bdc825eb44937fdbdacbfe8fe524a96", func := "waybill/waybilllaw02.KeccakKnown", spec := "keccakKnown", inPlace := ["(*sync.WaitGroup).Add", "internal/race.ReleaseMerge", "internal/race.Disable", "internal/race.Enable", "internal/synctest.IsInBubble", "internal/synctest.Associate[sync.WaitGroup]", "sync.fatal", "sync/atomic.OrUint64", "sync/atomic.AddUint64", "internal/race.Read", "sync/atomic.LoadUint64", "sync/atomic.StoreUint64", "internal/synctest.Disassociate[sync.WaitGroup]", "sync.runtime_Semrelease", "(*sync.WaitGroup).Done", "(*sync.WaitGroup).Wait", "internal/race.Acquire", "internal/synctest.IsAssociated[sync.WaitGroup]", "sync/atomic.CompareAndSwapUint64", "internal/race.Write", "sync.runtime_SemacquireWaitGroup"], unfollowed := true, recurses := true, named := ["waybill/keccak.first"], leaving := true, apart := false, laid := [("waybill/keccak.first", laid_waybill_keccak_first)], narrowed := true }
def KeccakKnownUptoSaid : Prop := keccakKnownUptoRow.holds Tryd.pinned (OpenSpec.upto keccakKnownSpec)

end Rows
end Go.Proofs.YtogfjkomkpbjpaaDoor
