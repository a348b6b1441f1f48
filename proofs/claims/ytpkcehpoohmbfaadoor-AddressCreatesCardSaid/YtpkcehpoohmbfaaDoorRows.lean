/-
  NARROWER THAN 'FOR EVERY INPUT', by the rows' own cells (each row's printed sentence says how): AddressCreates: laid · AddressPoints: laid · AddressRows: laid · AddressRow: laid · AddressMade: laid.
  DERIVED. THE GIVEN ROWS OF THIS SEAT. 5 by the template 'for every input the law returns true; each argument reads behind the call as it read before'; 0 by the template 'total and deterministic' (their statements: YtpkcehpoohmbfaaDoorTotals.lean).
  GIVEN WITH THE SEED: the statements are not yours to turn. If you find one false, say at which input.
  Laid BY PROGRAM, IN A SANDBOX (cutbox-rows.mjs): the forced cells as the released guide's own fill.sh prints them over the translation c15820bdd84880da… (all of the seat's roots in one cut). By AI agents, Wed Nov 11 2026. No macro, syntax, notation, axiom, sorry.
-/
import Derived.Test.YtpkcehpoohmbfaaDoorChecked
import GoSem.Claim
import GoSem.ClaimJoined
import GoSem.ClaimMapViews
import Derived.JoinedTies
import Derived.KernelRfl
namespace Go.Proofs.YtpkcehpoohmbfaaDoor
/- THE CELL 'sum', in the pinned program and in every row, IS THE sha256 OF THE DUMP (.gsa) THAT YtpkcehpoohmbfaaDoorProg.lean LOADS. Nothing in Lean hashes anything: it is a label: what it is worth is what the hold of that sum in a sandbox is worth. -/
noncomputable def Tryd.pinned : Pinned := { name := "ytpkcehpoohmbfaadoor", sum := "c15820bdd84880da06148ad2169c9b0275c6a4e572a6f208c9e7efc2ff9dfec6", checked := Tryd.checked }
namespace Rows
def none {H : Type} : Left H := { results := [], args := [] }

/- WHAT THE LISTED PACKAGE-LEVEL VARIABLES READ AS WHEN THE CALL BEGINS. Each datum BY PROGRAM (the guide's laid-datum.mjs) off the statement by which the dump's own 'gosem.cut.vars' lays the variable. In a bare row this is a premise. The card (YtpkcehpoohmbfaaDoorCards.lean) ties it to the program's text. -/
def laid_waybill_keccak_first {H : Type} : DataW H := .agg [.lit (.int .u8 1), .lit (.int .u8 6)]
def laid_waybill_waybillref02_rounds {H : Type} : DataW H := .agg [.lit (.int .u64 1), .lit (.int .u64 32898), .lit (.int .u64 9223372036854808714), .lit (.int .u64 9223372039002292224), .lit (.int .u64 32907), .lit (.int .u64 2147483649), .lit (.int .u64 9223372039002292353), .lit (.int .u64 9223372036854808585), .lit (.int .u64 138), .lit (.int .u64 136), .lit (.int .u64 2147516425), .lit (.int .u64 2147483658), .lit (.int .u64 2147516555), .lit (.int .u64 9223372036854775947), .lit (.int .u64 9223372036854808713), .lit (.int .u64 9223372036854808579), .lit (.int .u64 9223372036854808578), .lit (.int .u64 9223372036854775936), .lit (.int .u64 32778), .lit (.int .u64 9223372039002259466), .lit (.int .u64 9223372039002292353), .lit (.int .u64 9223372036854808704), .lit (.int .u64 2147483649), .lit (.int .u64 9223372039002292232)]
def laid_waybill_waybillref02_turns {H : Type} : DataW H := .agg [.lit (.int .i64 0), .lit (.int .i64 1), .lit (.int .i64 62), .lit (.int .i64 28), .lit (.int .i64 27), .lit (.int .i64 36), .lit (.int .i64 44), .lit (.int .i64 6), .lit (.int .i64 55), .lit (.int .i64 20), .lit (.int .i64 3), .lit (.int .i64 10), .lit (.int .i64 43), .lit (.int .i64 25), .lit (.int .i64 39), .lit (.int .i64 41), .lit (.int .i64 45), .lit (.int .i64 15), .lit (.int .i64 21), .lit (.int .i64 8), .lit (.int .i64 18), .lit (.int .i64 2), .lit (.int .i64 61), .lit (.int .i64 56), .lit (.int .i64 14)]
def laid_waybill_field_moduli {H : Type} : DataW H := .agg [.agg [.agg [.lit (.int .u64 18446744069414583343), .lit (.int .u64 18446744073709551615), .lit (.int .u64 18446744073709551615), .lit (.int .u64 18446744073709551615)], .agg [.lit (.int .u64 4294968273), .lit (.int .u64 0), .lit (.int .u64 0), .lit (.int .u64 0)]], .agg [.agg [.lit (.int .u64 13822214165235122497), .lit (.int .u64 13451932020343611451), .lit (.int .u64 18446744073709551614), .lit (.int .u64 18446744073709551615)], .agg [.lit (.int .u64 4624529908474429119), .lit (.int .u64 4994812053365940164), .lit (.int .u64 1), .lit (.int .u64 0)]]]
def laid_waybill_curve_base {H : Type} : DataW H := .agg [.lit (.int .u64 6481385041966929816), .lit (.int .u64 188021827762530521), .lit (.int .u64 6170039885052185351), .lit (.int .u64 8772561819708210092), .lit (.int .u64 11261198710074299576), .lit (.int .u64 18237243440184513561), .lit (.int .u64 6747795201694173352), .lit (.int .u64 5204712524664259685)]

/-- 'waybilllaw09.AddressCreates': WHATEVER THE INPUT: true; the input reads as it did. -/
def addressCreatesSpec : ChangeSpec := { name := "addressCreates", fn := fun _ => fun
  | [d1, d2, d3, d4] => { results := [.lit (.bool true)], args := [d1, d2, d3, d4] }
  | _ => none }
def addressCreatesRow : OpenClaim := { program := "ytpkcehpoohmbfaadoor", sum := "c15820bdd84880da06148ad2169c9b0275c6a4e572a6f208c9e7efc2ff9dfec6", func := "waybill/waybilllaw09.AddressCreates", spec := "addressCreates", recurses := true, named := ["waybill/keccak.first", "waybill/waybillref02.rounds", "waybill/waybillref02.turns"], apart := false, laid := [("waybill/keccak.first", laid_waybill_keccak_first), ("waybill/waybillref02.rounds", laid_waybill_waybillref02_rounds), ("waybill/waybillref02.turns", laid_waybill_waybillref02_turns)] }
def AddressCreatesSaid : Prop := addressCreatesRow.holds Tryd.pinned (OpenSpec.ofChange addressCreatesSpec)

/-- ITS FALSE NEIGHBOUR: 'it returns false'. Refute it at one input. -/
def addressCreatesWrong : ChangeSpec := { name := "addressCreates", fn := fun _ => fun
  | [d1, d2, d3, d4] => { results := [.lit (.bool false)], args := [d1, d2, d3, d4] }
  | _ => none }
def AddressCreatesWrongFalsely : Prop := addressCreatesRow.holds Tryd.pinned (OpenSpec.ofChange addressCreatesWrong)

/-- 'waybilllaw09.AddressPoints': WHATEVER THE INPUT: true; the input reads as it did. -/
def addressPointsSpec : ChangeSpec := { name := "addressPoints", fn := fun _ => fun
  | [d] => { results := [.lit (.bool true)], args := [d] }
  | _ => none }
def addressPointsRow : OpenClaim := { program := "ytpkcehpoohmbfaadoor", sum := "c15820bdd84880da06148ad2169c9b0275c6a4e572a6f208c9e7efc2ff9dfec6", func := "waybill/waybilllaw09.AddressPoints", spec := "addressPoints", inPlace := ["math/bits.Sub64", "math/bits.Add64"], named := ["waybill/field.moduli", "waybill/keccak.first", "waybill/waybillref02.rounds", "waybill/waybillref02.turns"], apart := false, laid := [("waybill/keccak.first", laid_waybill_keccak_first), ("waybill/field.moduli", laid_waybill_field_moduli), ("waybill/waybillref02.rounds", laid_waybill_waybillref02_rounds), ("waybill/waybillref02.turns", laid_waybill_waybillref02_turns)] }
def AddressPointsSaid : Prop := addressPointsRow.holds Tryd.pinned (OpenSpec.ofChange addressPointsSpec)

/-- ITS FALSE NEIGHBOUR: 'it returns false'. Refute it at one input. -/
def addressPointsWrong : ChangeSpec := { name := "addressPoints", fn := fun _ => fun
  | [d] => { results := [.lit (.bool false)], args := [d] }
  | _ => none }
def AddressPointsWrongFalsely : Prop := addressPointsRow.holds Tryd.pinned (OpenSpec.ofChange addressPointsWrong)

/-- 'waybilllaw09.AddressRows': WHATEVER THE INPUT: true; the input reads as it did. -/
def addressRowsSpec : ChangeSpec := { name := "addressRows", fn := fun _ => fun
  | [d1, d2, d3] => { results := [.lit (.bool true)], args := [d1, d2, d3] }
  | _ => none }
def addressRowsRow : OpenClaim := { program := "ytpkcehpoohmbfaadoor", sum := "c15820bdd84880da06148ad2169c9b0275c6a4e572a6f208c9e7efc2ff9dfec6", func := "waybill/waybilllaw09.AddressRows", spec := "addressRows", inPlace := ["(*sync.WaitGroup).Add", "internal/race.ReleaseMerge", "internal/race.Disable", "internal/race.Enable", "internal/synctest.IsInBubble", "internal/synctest.Associate[sync.WaitGroup]", "sync.fatal", "sync/atomic.OrUint64", "sync/atomic.AddUint64", "internal/race.Read", "sync/atomic.LoadUint64", "sync/atomic.StoreUint64", "internal/synctest.Disassociate[sync.WaitGroup]", "sync.runtime_Semrelease", "(*sync.WaitGroup).Done", "(*sync.WaitGroup).Wait", "internal/race.Acquire", "internal/synctest.IsAssociated[sync.WaitGroup]", "sync/atomic.CompareAndSwapUint64", "internal/race.Write", "sync.runtime_SemacquireWaitGroup"], unfollowed := true, recurses := true, named := ["waybill/keccak.first", "waybill/waybillref02.rounds", "waybill/waybillref02.turns"], leaving := true, apart := false, laid := [("waybill/keccak.first", laid_waybill_keccak_first), ("waybill/waybillref02.rounds", laid_waybill_waybillref02_rounds), ("waybill/waybillref02.turns", laid_waybill_waybillref02_turns)] }
def AddressRowsSaid : Prop := addressRowsRow.holds Tryd.pinned (OpenSpec.ofChange addressRowsSpec)

/-- ITS FALSE NEIGHBOUR: 'it returns false'. Refute it at one input. -/
def addressRowsWrong : ChangeSpec := { name := "addressRows", fn := fun _ => fun
  | [d1, d2, d3] => { results := [.lit (.bool false)], args := [d1, d2, d3] }
  | _ => none }
def AddressRowsWrongFalsely : Prop := addressRowsRow.holds Tryd.pinned (OpenSpec.ofChange addressRowsWrong)

/-- 'waybilllaw09.AddressRow': WHATEVER THE INPUT: true; the input reads as it did. -/
def addressRowSpec : ChangeSpec := { name := "addressRow", fn := fun _ => fun
  | [d1, d2, d3, d4] => { results := [.lit (.bool true)], args := [d1, d2, d3, d4] }
  | _ => none }
def addressRowRow : OpenClaim := { program := "ytpkcehpoohmbfaadoor", sum := "c15820bdd84880da06148ad2169c9b0275c6a4e572a6f208c9e7efc2ff9dfec6", func := "waybill/waybilllaw09.AddressRow", spec := "addressRow", inPlace := ["(*sync.WaitGroup).Add", "internal/race.ReleaseMerge", "internal/race.Disable", "internal/race.Enable", "internal/synctest.IsInBubble", "internal/synctest.Associate[sync.WaitGroup]", "sync.fatal", "sync/atomic.OrUint64", "sync/atomic.AddUint64", "internal/race.Read", "sync/atomic.LoadUint64", "sync/atomic.StoreUint64", "internal/synctest.Disassociate[sync.WaitGroup]", "sync.runtime_Semrelease", "(*sync.WaitGroup).Done", "(*sync.WaitGroup).Wait", "internal/race.Acquire", "internal/synctest.IsAssociated[sync.WaitGroup]", "sync/atomic.CompareAndSwapUint64", "internal/race.Write", "sync.runtime_SemacquireWaitGroup"], unfollowed := true, recurses := true, named := ["waybill/keccak.first", "waybill/waybillref02.rounds", "waybill/waybillref02.turns"], leaving := true, apart := false, laid := [("waybill/keccak.first", laid_waybill_keccak_first), ("waybill/waybillref02.rounds", laid_waybill_waybillref02_rounds), ("waybill/waybillref02.turns", laid_waybill_waybillref02_turns)] }
def AddressRowSaid : Prop := addressRowRow.holds Tryd.pinned (OpenSpec.ofChange addressRowSpec)

/-- ITS FALSE NEIGHBOUR: 'it returns false'. Refute it at one input. -/
def addressRowWrong : ChangeSpec := { name := "addressRow", fn := fun _ => fun
  | [d1, d2, d3, d4] => { results := [.lit (.bool false)], args := [d1, d2, d3, d4] }
  | _ => none }
def AddressRowWrongFalsely : Prop := addressRowRow.holds Tryd.pinned (OpenSpec.ofChange addressRowWrong)

/-- 'waybilllaw09.AddressMade': WHATEVER THE INPUT: true; the input reads as it did. -/
def addressMadeSpec : ChangeSpec := { name := "addressMade", fn := fun _ => fun
  | [d1, d2, d3, d4, d5] => { results := [.lit (.bool true)], args := [d1, d2, d3, d4, d5] }
  | _ => none }
def addressMadeRow : OpenClaim := { program := "ytpkcehpoohmbfaadoor", sum := "c15820bdd84880da06148ad2169c9b0275c6a4e572a6f208c9e7efc2ff9dfec6", func := "waybill/waybilllaw09.AddressMade", spec := "addressMade", inPlace := ["math/bits.Add64", "math/bits.Sub64"], recurses := true, named := ["waybill/keccak.first", "waybill/curve.base", "waybill/field.moduli"], apart := false, laid := [("waybill/keccak.first", laid_waybill_keccak_first), ("waybill/field.moduli", laid_waybill_field_moduli), ("waybill/curve.base", laid_waybill_curve_base)] }
def AddressMadeSaid : Prop := addressMadeRow.holds Tryd.pinned (OpenSpec.ofChange addressMadeSpec)

/-- ITS FALSE NEIGHBOUR: 'it returns false'. Refute it at one input. -/
def addressMadeWrong : ChangeSpec := { name := "addressMade", fn := fun _ => fun
  | [d1, d2, d3, d4, d5] => { results := [.lit (.bool false)], args := [d1, d2, d3, d4, d5] }
  | _ => none }
def AddressMadeWrongFalsely : Prop := addressMadeRow.holds Tryd.pinned (OpenSpec.ofChange addressMadeWrong)

/- THE SECOND FORM. 'bulk': how many values and letters a reading holds, each counted each time it is reached (what is shared counts as often as it is met; a slice's spare places count too). A statement '..UptoSaid' is the law's where the arguments, and the package variables that the reading takes, are together of bulk at most 1048576: NARROWER than '..Said'. Prove '..Said' where nothing that the law and all that it calls make is longer than what came in: it says more and counts as full. Else prove '..UptoSaid'. A law counts once. -/
mutual
def uptoBulk {H : Type} : DataW H → Nat
  | .lit (.string bytes) => bytes.length + 1
  | .lit _ => 1
  | .nil => 1
  | .ptr d => uptoBulk d + 1
  | .slice elems spare => uptoBulkAll elems + uptoBulkAll spare + 1
  | .agg parts => uptoBulkAll parts + 1
  | .iface _ d => uptoBulk d + 1
  | .map entries => uptoBulkEntries entries + 1
  | .held _ => 1
def uptoBulkAll {H : Type} : List (DataW H) → Nat
  | [] => 0
  | d :: r => uptoBulk d + uptoBulkAll r
def uptoBulkEntries {H : Type} : List (Lit × DataW H) → Nat
  | [] => 0
  | x :: r => uptoBulkEntry x + uptoBulkEntries r
def uptoBulkEntry {H : Type} : Lit × DataW H → Nat
  | (.string bytes, d) => bytes.length + uptoBulk d + 1
  | (_, d) => uptoBulk d + 1
 end
def uptoSmall : (H : Type) → List (DataW H) → Bool := fun _ ds => decide (uptoBulkAll ds ≤ 1048576)
def OpenSpec.upto (s : _root_.Go.ChangeSpec) : _root_.Go.OpenSpec := { _root_.Go.OpenSpec.ofChange s with cond := some uptoSmall }

/-- 'waybilllaw09.AddressCreates', WHERE WHAT IT READS IS OF BULK AT MOST 1048576: true; the input reads as it did. -/
def addressCreatesUptoRow : OpenClaim := { program := "ytpkcehpoohmbfaadoor", sum := "c15820bdd84880da06148ad2169c9b0275c6a4e572a6f208c9e7efc2ff9dfec6", func := "waybill/waybilllaw09.AddressCreates", spec := "addressCreates", recurses := true, named := ["waybill/keccak.first", "waybill/waybillref02.rounds", "waybill/waybillref02.turns"], apart := false, laid := [("waybill/keccak.first", laid_waybill_keccak_first), ("waybill/waybillref02.rounds", laid_waybill_waybillref02_rounds), ("waybill/waybillref02.turns", laid_waybill_waybillref02_turns)], narrowed := true }
def AddressCreatesUptoSaid : Prop := addressCreatesUptoRow.holds Tryd.pinned (OpenSpec.upto addressCreatesSpec)

/-- 'waybilllaw09.AddressPoints', WHERE WHAT IT READS IS OF BULK AT MOST 1048576: true; the input reads as it did. -/
def addressPointsUptoRow : OpenClaim := { program := "ytpkcehpoohmbfaadoor", sum := "c15820bdd84880da06148ad2169c9b0275c6a4e572a6f208c9e7efc2ff9dfec6", func := "waybill/waybilllaw09.AddressPoints", spec := "addressPoints", inPlace := ["math/bits.Sub64", "math/bits.Add64"], named := ["waybill/field.moduli", "waybill/keccak.first", "waybill/waybillref02.rounds", "waybill/waybillref02.turns"], apart := false, laid := [("waybill/keccak.first", laid_waybill_keccak_first), ("waybill/field.moduli", laid_waybill_field_moduli), ("waybill/waybillref02.rounds", laid_waybill_waybillref02_rounds), ("waybill/waybillref02.turns", laid_waybill_waybillref02_turns)], narrowed := true }
def AddressPointsUptoSaid : Prop := addressPointsUptoRow.holds Tryd.pinned (OpenSpec.upto addressPointsSpec)

/-- 'waybilllaw09.AddressRows', WHERE WHAT IT READS IS OF BULK AT MOST 1048576: true; the input reads as it did. -/
def addressRowsUptoRow : OpenClaim := { program := "ytpkcehpoohmbfaadoor", sum := "c15820bdd84880da06148ad2169c9b0275c6a4e572a6f208c9e7efc2ff9dfec6", func := "waybill/waybilllaw09.AddressRows", spec := "addressRows", inPlace := ["(*sync.WaitGroup).Add", "internal/race.ReleaseMerge", "internal/race.Disable", "internal/race.Enable", "internal/synctest.IsInBubble", "internal/synctest.Associate[sync.WaitGroup]", "sync.fatal", "sync/atomic.OrUint64", "sync/atomic.AddUint64", "internal/race.Read", "sync/atomic.LoadUint64", "sync/atomic.StoreUint64", "internal/synctest.Disassociate[sync.WaitGroup]", "sync.runtime_Semrelease", "(*sync.WaitGroup).Done", "(*sync.WaitGroup).Wait", "internal/race.Acquire", "internal/synctest.IsAssociated[sync.WaitGroup]", "sync/atomic.CompareAndSwapUint64", "internal/race.Write", "sync.runtime_SemacquireWaitGroup"], unfollowed := true, recurses := true, named := ["waybill/keccak.first", "waybill/waybillref02.rounds", "waybill/waybillref02.turns"], leaving := true, apart := false, laid := [("waybill/keccak.first", laid_waybill_keccak_first), ("waybill/waybillref02.rounds", laid_waybill_waybillref02_rounds), ("waybill/waybillref02.turns", laid_waybill_waybillref02_turns)], narrowed := true }
def AddressRowsUptoSaid : Prop := addressRowsUptoRow.holds Tryd.pinned (OpenSpec.upto addressRowsSpec)

/-- 'waybilllaw09.AddressRow', WHERE WHAT IT READS IS OF BULK AT MOST 1048576: true; the input reads as it did. -/
def addressRowUptoRow : OpenClaim := { program := "ytpkcehpoohmbfaadoor", sum := "c15820bdd84880da06148ad2169c9b0275c6a4e572a6f208c9e7efc2ff9dfec6", func := "waybill/waybilllaw09.AddressRow", spec := "addressRow", inPlace := ["(*sync.WaitGroup).Add", "internal/race.ReleaseMerge", "internal/race.Disable", "internal/race.Enable", "internal/synctest.IsInBubble", "internal/synctest.Associate[sync.WaitGroup]", "sync.fatal", "sync/atomic.OrUint64", "sync/atomic.AddUint64", "internal/race.Read", "sync/atomic.LoadUint64", "sync/atomic.StoreUint64", "internal/synctest.Disassociate[sync.WaitGroup]", "sync.runtime_Semrelease", "(*sync.WaitGroup).Done", "(*sync.WaitGroup).Wait", "internal/race.Acquire", "internal/synctest.IsAssociated[sync.WaitGroup]", "sync/atomic.CompareAndSwapUint64", "internal/race.Write", "sync.runtime_SemacquireWaitGroup"], unfollowed := true, recurses := true, named := ["waybill/keccak.first", "waybill/waybillref02.rounds", "waybill/waybillref02.turns"], leaving := true, apart := false, laid := [("waybill/keccak.first", laid_waybill_keccak_first), ("waybill/waybillref02.rounds", laid_waybill_waybillref02_rounds), ("waybill/waybillref02.turns", laid_waybill_waybillref02_turns)], narrowed := true }
def AddressRowUptoSaid : Prop := addressRowUptoRow.holds Tryd.pinned (OpenSpec.upto addressRowSpec)

/-- 'waybilllaw09.AddressMade', WHERE WHAT IT READS IS OF BULK AT MOST 1048576: true; the input reads as it did. -/
def addressMadeUptoRow : OpenClaim := { program := "ytpkcehpoohmbfaadoor", sum := "c15820bdd84880da06148ad2169c9b0275c6a4e572a6f208c9e7efc2ff9dfec6", func := "waybill/waybilllaw09.AddressMade", spec := "addressMade", inPlace := ["math/bits.Add64", "math/bits.Sub64"], recurses := true, named := ["waybill/keccak.first", "waybill/curve.base", "waybill/field.moduli"], apart := false, laid := [("waybill/keccak.first", laid_waybill_keccak_first), ("waybill/field.moduli", laid_waybill_field_moduli), ("waybill/curve.base", laid_waybill_curve_base)], narrowed := true }
def AddressMadeUptoSaid : Prop := addressMadeUptoRow.holds Tryd.pinned (OpenSpec.upto addressMadeSpec)

end Rows
end Go.Proofs.YtpkcehpoohmbfaaDoor
