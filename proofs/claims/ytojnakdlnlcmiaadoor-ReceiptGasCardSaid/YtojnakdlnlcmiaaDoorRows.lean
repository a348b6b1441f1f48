/-
  NARROWER THAN 'FOR EVERY INPUT', by the rows' own cells (each row's printed sentence says how): ReceiptGas: laid · ReceiptFinds: laid · ReceiptMakes: laid · ReceiptBlooms: laid · ReceiptWrites: laid · ReceiptReads: laid · ReceiptBack: laid · ReceiptOne: laid · ReceiptSpoilt: laid.
  DERIVED. THE GIVEN ROWS OF THIS SEAT. 9 by the template 'for every input the law returns true; each argument reads behind the call as it read before'; 0 by the template 'total and deterministic' (their statements: YtojnakdlnlcmiaaDoorTotals.lean).
  GIVEN WITH THE SEED: the statements are not yours to turn. If you find one false, say at which input.
  Laid BY PROGRAM, IN A SANDBOX (cutbox-rows.mjs): the forced cells as the released guide's own fill.sh prints them over the translation 954d395f6f7f3867… (all of the seat's roots in one cut). By AI agents, Wed Nov 11 2026. No macro, syntax, notation, axiom, sorry.
-/
import Derived.Test.YtojnakdlnlcmiaaDoorChecked
import GoSem.Claim
import GoSem.ClaimJoined
import GoSem.ClaimMapViews
import Derived.JoinedTies
import Derived.KernelRfl
namespace Go.Proofs.YtojnakdlnlcmiaaDoor
/- THE CELL 'sum', in the pinned program and in every row, IS THE sha256 OF THE DUMP (.gsa) THAT YtojnakdlnlcmiaaDoorProg.lean LOADS. Nothing in Lean hashes anything: it is a label: what it is worth is what the hold of that sum in a sandbox is worth. -/
noncomputable def Tryd.pinned : Pinned := { name := "ytojnakdlnlcmiaadoor", sum := "954d395f6f7f38679aa883513c4ad76e4a27ac9cbb197790d93dac4b96bf8539", checked := Tryd.checked }
namespace Rows
def none {H : Type} : Left H := { results := [], args := [] }

/- WHAT THE LISTED PACKAGE-LEVEL VARIABLES READ AS WHEN THE CALL BEGINS. Each datum BY PROGRAM (the guide's laid-datum.mjs) off the statement by which the dump's own 'gosem.cut.vars' lays the variable. In a bare row this is a premise. The card (YtojnakdlnlcmiaaDoorCards.lean) ties it to the program's text. -/
def laid_waybill_waybillplay_markHash {H : Type} : DataW H := .agg [.lit (.int .u8 165), .lit (.int .u8 90), .lit (.int .u8 0), .lit (.int .u8 0), .lit (.int .u8 0), .lit (.int .u8 0), .lit (.int .u8 0), .lit (.int .u8 0), .lit (.int .u8 0), .lit (.int .u8 0), .lit (.int .u8 0), .lit (.int .u8 0), .lit (.int .u8 0), .lit (.int .u8 0), .lit (.int .u8 0), .lit (.int .u8 0), .lit (.int .u8 0), .lit (.int .u8 0), .lit (.int .u8 0), .lit (.int .u8 0), .lit (.int .u8 0), .lit (.int .u8 0), .lit (.int .u8 0), .lit (.int .u8 0), .lit (.int .u8 0), .lit (.int .u8 0), .lit (.int .u8 0), .lit (.int .u8 0), .lit (.int .u8 0), .lit (.int .u8 0), .lit (.int .u8 0), .lit (.int .u8 0)]
def laid_waybill_waybillplay_markAddress {H : Type} : DataW H := .agg [.lit (.int .u8 165), .lit (.int .u8 90), .lit (.int .u8 0), .lit (.int .u8 0), .lit (.int .u8 0), .lit (.int .u8 0), .lit (.int .u8 0), .lit (.int .u8 0), .lit (.int .u8 0), .lit (.int .u8 0), .lit (.int .u8 0), .lit (.int .u8 0), .lit (.int .u8 0), .lit (.int .u8 0), .lit (.int .u8 0), .lit (.int .u8 0), .lit (.int .u8 0), .lit (.int .u8 0), .lit (.int .u8 0), .lit (.int .u8 0)]
def laid_waybill_keccak_first {H : Type} : DataW H := .agg [.lit (.int .u8 1), .lit (.int .u8 6)]
def laid_waybill_waybillref02_rounds {H : Type} : DataW H := .agg [.lit (.int .u64 1), .lit (.int .u64 32898), .lit (.int .u64 9223372036854808714), .lit (.int .u64 9223372039002292224), .lit (.int .u64 32907), .lit (.int .u64 2147483649), .lit (.int .u64 9223372039002292353), .lit (.int .u64 9223372036854808585), .lit (.int .u64 138), .lit (.int .u64 136), .lit (.int .u64 2147516425), .lit (.int .u64 2147483658), .lit (.int .u64 2147516555), .lit (.int .u64 9223372036854775947), .lit (.int .u64 9223372036854808713), .lit (.int .u64 9223372036854808579), .lit (.int .u64 9223372036854808578), .lit (.int .u64 9223372036854775936), .lit (.int .u64 32778), .lit (.int .u64 9223372039002259466), .lit (.int .u64 9223372039002292353), .lit (.int .u64 9223372036854808704), .lit (.int .u64 2147483649), .lit (.int .u64 9223372039002292232)]
def laid_waybill_waybillref02_turns {H : Type} : DataW H := .agg [.lit (.int .i64 0), .lit (.int .i64 1), .lit (.int .i64 62), .lit (.int .i64 28), .lit (.int .i64 27), .lit (.int .i64 36), .lit (.int .i64 44), .lit (.int .i64 6), .lit (.int .i64 55), .lit (.int .i64 20), .lit (.int .i64 3), .lit (.int .i64 10), .lit (.int .i64 43), .lit (.int .i64 25), .lit (.int .i64 39), .lit (.int .i64 41), .lit (.int .i64 45), .lit (.int .i64 15), .lit (.int .i64 21), .lit (.int .i64 8), .lit (.int .i64 18), .lit (.int .i64 2), .lit (.int .i64 61), .lit (.int .i64 56), .lit (.int .i64 14)]

/-- 'waybilllaw17.ReceiptGas': WHATEVER THE INPUT: true; the input reads as it did. -/
def receiptGasSpec : ChangeSpec := { name := "receiptGas", fn := fun _ => fun
  | [d] => { results := [.lit (.bool true)], args := [d] }
  | _ => none }
def receiptGasRow : OpenClaim := { program := "ytojnakdlnlcmiaadoor", sum := "954d395f6f7f38679aa883513c4ad76e4a27ac9cbb197790d93dac4b96bf8539", func := "waybill/waybilllaw17.ReceiptGas", spec := "receiptGas", named := ["waybill/waybillplay.markAddress", "waybill/waybillplay.markHash"], apart := false, laid := [("waybill/waybillplay.markHash", laid_waybill_waybillplay_markHash), ("waybill/waybillplay.markAddress", laid_waybill_waybillplay_markAddress)] }
def ReceiptGasSaid : Prop := receiptGasRow.holds Tryd.pinned (OpenSpec.ofChange receiptGasSpec)

/-- ITS FALSE NEIGHBOUR: 'it returns false'. Refute it at one input. -/
def receiptGasWrong : ChangeSpec := { name := "receiptGas", fn := fun _ => fun
  | [d] => { results := [.lit (.bool false)], args := [d] }
  | _ => none }
def ReceiptGasWrongFalsely : Prop := receiptGasRow.holds Tryd.pinned (OpenSpec.ofChange receiptGasWrong)

/-- 'waybilllaw17.ReceiptFinds': WHATEVER THE INPUT: true; the input reads as it did. -/
def receiptFindsSpec : ChangeSpec := { name := "receiptFinds", fn := fun _ => fun
  | [d1, d2, d3] => { results := [.lit (.bool true)], args := [d1, d2, d3] }
  | _ => none }
def receiptFindsRow : OpenClaim := { program := "ytojnakdlnlcmiaadoor", sum := "954d395f6f7f38679aa883513c4ad76e4a27ac9cbb197790d93dac4b96bf8539", func := "waybill/waybilllaw17.ReceiptFinds", spec := "receiptFinds", named := ["waybill/waybillplay.markAddress", "waybill/waybillplay.markHash"], apart := false, laid := [("waybill/waybillplay.markHash", laid_waybill_waybillplay_markHash), ("waybill/waybillplay.markAddress", laid_waybill_waybillplay_markAddress)] }
def ReceiptFindsSaid : Prop := receiptFindsRow.holds Tryd.pinned (OpenSpec.ofChange receiptFindsSpec)

/-- ITS FALSE NEIGHBOUR: 'it returns false'. Refute it at one input. -/
def receiptFindsWrong : ChangeSpec := { name := "receiptFinds", fn := fun _ => fun
  | [d1, d2, d3] => { results := [.lit (.bool false)], args := [d1, d2, d3] }
  | _ => none }
def ReceiptFindsWrongFalsely : Prop := receiptFindsRow.holds Tryd.pinned (OpenSpec.ofChange receiptFindsWrong)

/-- 'waybilllaw17.ReceiptMakes': WHATEVER THE INPUT: true; the input reads as it did. -/
def receiptMakesSpec : ChangeSpec := { name := "receiptMakes", fn := fun _ => fun
  | [d1, d2, d3, d4] => { results := [.lit (.bool true)], args := [d1, d2, d3, d4] }
  | _ => none }
def receiptMakesRow : OpenClaim := { program := "ytojnakdlnlcmiaadoor", sum := "954d395f6f7f38679aa883513c4ad76e4a27ac9cbb197790d93dac4b96bf8539", func := "waybill/waybilllaw17.ReceiptMakes", spec := "receiptMakes", named := ["waybill/keccak.first", "waybill/waybillref02.rounds", "waybill/waybillref02.turns"], apart := false, laid := [("waybill/keccak.first", laid_waybill_keccak_first), ("waybill/waybillref02.rounds", laid_waybill_waybillref02_rounds), ("waybill/waybillref02.turns", laid_waybill_waybillref02_turns)] }
def ReceiptMakesSaid : Prop := receiptMakesRow.holds Tryd.pinned (OpenSpec.ofChange receiptMakesSpec)

/-- ITS FALSE NEIGHBOUR: 'it returns false'. Refute it at one input. -/
def receiptMakesWrong : ChangeSpec := { name := "receiptMakes", fn := fun _ => fun
  | [d1, d2, d3, d4] => { results := [.lit (.bool false)], args := [d1, d2, d3, d4] }
  | _ => none }
def ReceiptMakesWrongFalsely : Prop := receiptMakesRow.holds Tryd.pinned (OpenSpec.ofChange receiptMakesWrong)

/-- 'waybilllaw17.ReceiptBlooms': WHATEVER THE INPUT: true; the input reads as it did. -/
def receiptBloomsSpec : ChangeSpec := { name := "receiptBlooms", fn := fun _ => fun
  | [d1, d2, d3] => { results := [.lit (.bool true)], args := [d1, d2, d3] }
  | _ => none }
def receiptBloomsRow : OpenClaim := { program := "ytojnakdlnlcmiaadoor", sum := "954d395f6f7f38679aa883513c4ad76e4a27ac9cbb197790d93dac4b96bf8539", func := "waybill/waybilllaw17.ReceiptBlooms", spec := "receiptBlooms", named := ["waybill/keccak.first"], apart := false, laid := [("waybill/keccak.first", laid_waybill_keccak_first)] }
def ReceiptBloomsSaid : Prop := receiptBloomsRow.holds Tryd.pinned (OpenSpec.ofChange receiptBloomsSpec)

/-- ITS FALSE NEIGHBOUR: 'it returns false'. Refute it at one input. -/
def receiptBloomsWrong : ChangeSpec := { name := "receiptBlooms", fn := fun _ => fun
  | [d1, d2, d3] => { results := [.lit (.bool false)], args := [d1, d2, d3] }
  | _ => none }
def ReceiptBloomsWrongFalsely : Prop := receiptBloomsRow.holds Tryd.pinned (OpenSpec.ofChange receiptBloomsWrong)

/-- 'waybilllaw17.ReceiptWrites': WHATEVER THE INPUT: true; the input reads as it did. -/
def receiptWritesSpec : ChangeSpec := { name := "receiptWrites", fn := fun _ => fun
  | [d] => { results := [.lit (.bool true)], args := [d] }
  | _ => none }
def receiptWritesRow : OpenClaim := { program := "ytojnakdlnlcmiaadoor", sum := "954d395f6f7f38679aa883513c4ad76e4a27ac9cbb197790d93dac4b96bf8539", func := "waybill/waybilllaw17.ReceiptWrites", spec := "receiptWrites", recurses := true, named := ["waybill/keccak.first", "waybill/waybillref02.rounds", "waybill/waybillref02.turns"], apart := false, laid := [("waybill/keccak.first", laid_waybill_keccak_first), ("waybill/waybillref02.rounds", laid_waybill_waybillref02_rounds), ("waybill/waybillref02.turns", laid_waybill_waybillref02_turns)] }
def ReceiptWritesSaid : Prop := receiptWritesRow.holds Tryd.pinned (OpenSpec.ofChange receiptWritesSpec)

/-- ITS FALSE NEIGHBOUR: 'it returns false'. Refute it at one input. -/
def receiptWritesWrong : ChangeSpec := { name := "receiptWrites", fn := fun _ => fun
  | [d] => { results := [.lit (.bool false)], args := [d] }
  | _ => none }
def ReceiptWritesWrongFalsely : Prop := receiptWritesRow.holds Tryd.pinned (OpenSpec.ofChange receiptWritesWrong)

/-- 'waybilllaw17.ReceiptReads': WHATEVER THE INPUT: true; the input reads as it did. -/
def receiptReadsSpec : ChangeSpec := { name := "receiptReads", fn := fun _ => fun
  | [d] => { results := [.lit (.bool true)], args := [d] }
  | _ => none }
def receiptReadsRow : OpenClaim := { program := "ytojnakdlnlcmiaadoor", sum := "954d395f6f7f38679aa883513c4ad76e4a27ac9cbb197790d93dac4b96bf8539", func := "waybill/waybilllaw17.ReceiptReads", spec := "receiptReads", inPlace := ["math/bits.Sub64"], recurses := true, named := ["waybill/keccak.first", "waybill/waybillref02.rounds", "waybill/waybillref02.turns"], apart := false, laid := [("waybill/keccak.first", laid_waybill_keccak_first), ("waybill/waybillref02.rounds", laid_waybill_waybillref02_rounds), ("waybill/waybillref02.turns", laid_waybill_waybillref02_turns)] }
def ReceiptReadsSaid : Prop := receiptReadsRow.holds Tryd.pinned (OpenSpec.ofChange receiptReadsSpec)

/-- ITS FALSE NEIGHBOUR: 'it returns false'. Refute it at one input. -/
def receiptReadsWrong : ChangeSpec := { name := "receiptReads", fn := fun _ => fun
  | [d] => { results := [.lit (.bool false)], args := [d] }
  | _ => none }
def ReceiptReadsWrongFalsely : Prop := receiptReadsRow.holds Tryd.pinned (OpenSpec.ofChange receiptReadsWrong)

/-- 'waybilllaw17.ReceiptBack': WHATEVER THE INPUT: true; the input reads as it did. -/
def receiptBackSpec : ChangeSpec := { name := "receiptBack", fn := fun _ => fun
  | [d] => { results := [.lit (.bool true)], args := [d] }
  | _ => none }
def receiptBackRow : OpenClaim := { program := "ytojnakdlnlcmiaadoor", sum := "954d395f6f7f38679aa883513c4ad76e4a27ac9cbb197790d93dac4b96bf8539", func := "waybill/waybilllaw17.ReceiptBack", spec := "receiptBack", inPlace := ["math/bits.Sub64"], recurses := true, named := ["waybill/keccak.first"], apart := false, laid := [("waybill/keccak.first", laid_waybill_keccak_first)] }
def ReceiptBackSaid : Prop := receiptBackRow.holds Tryd.pinned (OpenSpec.ofChange receiptBackSpec)

/-- ITS FALSE NEIGHBOUR: 'it returns false'. Refute it at one input. -/
def receiptBackWrong : ChangeSpec := { name := "receiptBack", fn := fun _ => fun
  | [d] => { results := [.lit (.bool false)], args := [d] }
  | _ => none }
def ReceiptBackWrongFalsely : Prop := receiptBackRow.holds Tryd.pinned (OpenSpec.ofChange receiptBackWrong)

/-- 'waybilllaw17.ReceiptOne': WHATEVER THE INPUT: true; the input reads as it did. -/
def receiptOneSpec : ChangeSpec := { name := "receiptOne", fn := fun _ => fun
  | [d] => { results := [.lit (.bool true)], args := [d] }
  | _ => none }
def receiptOneRow : OpenClaim := { program := "ytojnakdlnlcmiaadoor", sum := "954d395f6f7f38679aa883513c4ad76e4a27ac9cbb197790d93dac4b96bf8539", func := "waybill/waybilllaw17.ReceiptOne", spec := "receiptOne", inPlace := ["math/bits.Sub64"], recurses := true, named := ["waybill/keccak.first"], apart := false, laid := [("waybill/keccak.first", laid_waybill_keccak_first)] }
def ReceiptOneSaid : Prop := receiptOneRow.holds Tryd.pinned (OpenSpec.ofChange receiptOneSpec)

/-- ITS FALSE NEIGHBOUR: 'it returns false'. Refute it at one input. -/
def receiptOneWrong : ChangeSpec := { name := "receiptOne", fn := fun _ => fun
  | [d] => { results := [.lit (.bool false)], args := [d] }
  | _ => none }
def ReceiptOneWrongFalsely : Prop := receiptOneRow.holds Tryd.pinned (OpenSpec.ofChange receiptOneWrong)

/-- 'waybilllaw17.ReceiptSpoilt': WHATEVER THE INPUT: true; the input reads as it did. -/
def receiptSpoiltSpec : ChangeSpec := { name := "receiptSpoilt", fn := fun _ => fun
  | [d1, d2, d3, d4] => { results := [.lit (.bool true)], args := [d1, d2, d3, d4] }
  | _ => none }
def receiptSpoiltRow : OpenClaim := { program := "ytojnakdlnlcmiaadoor", sum := "954d395f6f7f38679aa883513c4ad76e4a27ac9cbb197790d93dac4b96bf8539", func := "waybill/waybilllaw17.ReceiptSpoilt", spec := "receiptSpoilt", inPlace := ["math/bits.Sub64"], recurses := true, named := ["waybill/keccak.first"], apart := false, laid := [("waybill/keccak.first", laid_waybill_keccak_first)] }
def ReceiptSpoiltSaid : Prop := receiptSpoiltRow.holds Tryd.pinned (OpenSpec.ofChange receiptSpoiltSpec)

/-- ITS FALSE NEIGHBOUR: 'it returns false'. Refute it at one input. -/
def receiptSpoiltWrong : ChangeSpec := { name := "receiptSpoilt", fn := fun _ => fun
  | [d1, d2, d3, d4] => { results := [.lit (.bool false)], args := [d1, d2, d3, d4] }
  | _ => none }
def ReceiptSpoiltWrongFalsely : Prop := receiptSpoiltRow.holds Tryd.pinned (OpenSpec.ofChange receiptSpoiltWrong)

/- THE SECOND FORM. 'bulk': how many values and letters a reading holds, each counted each time it is reached (what is shared counts as often as it is met; a slice's spare places count too). A statement '..UptoSaid' is the law's where the arguments, and the package variables that the reading takes, are together of bulk at most 1048576: NARROWER than '..Said'. Prove '..Said' where nothing that the law and all that it calls make is longer than what came in: it says more and counts as full. Else prove '..UptoSaid'. A law counts once. -/
mutual
def uptoBulk {H : Type} : DataW H → Nat
  | .lit (.string bytes) => bytes.length + 1
  | .lit _ => 1
  | .nil => 1
  | .ptr d => uptoBulk d + 1
  | .slice elems spare => uptoBulkAll elems + uptoBulkAll spare + 1
  | .agg parts => uptoBulkAll parts + 1
  | .iface _ d => uptoBulk d + 1
  | .map entries => uptoBulkEntries entries + 1
  | .held _ => 1
def uptoBulkAll {H : Type} : List (DataW H) → Nat
  | [] => 0
  | d :: r => uptoBulk d + uptoBulkAll r
def uptoBulkEntries {H : Type} : List (Lit × DataW H) → Nat
  | [] => 0
  | x :: r => uptoBulkEntry x + uptoBulkEntries r
def uptoBulkEntry {H : Type} : Lit × DataW H → Nat
  | (.string bytes, d) => bytes.length + uptoBulk d + 1
  | (_, d) => uptoBulk d + 1
 end
def uptoSmall : (H : Type) → List (DataW H) → Bool := fun _ ds => decide (uptoBulkAll ds ≤ 1048576)
def OpenSpec.upto (s : _root_.Go.ChangeSpec) : _root_.Go.OpenSpec := { _root_.Go.OpenSpec.ofChange s with cond := some uptoSmall }

/-- 'waybilllaw17.ReceiptGas', WHERE WHAT IT READS IS OF BULK AT MOST 1048576: true; the input reads as it did. -/
def receiptGasUptoRow : OpenClaim := { program := "ytojnakdlnlcmiaadoor", sum := "954d395f6f7f38679aa883513c4ad76e4a27ac9cbb197790d93dac4b96bf8539", func := "waybill/waybilllaw17.ReceiptGas", spec := "receiptGas", named := ["waybill/waybillplay.markAddress", "waybill/waybillplay.markHash"], apart := false, laid := [("waybill/waybillplay.markHash", laid_waybill_waybillplay_markHash), ("waybill/waybillplay.markAddress", laid_waybill_waybillplay_markAddress)], narrowed := true }
def ReceiptGasUptoSaid : Prop := receiptGasUptoRow.holds Tryd.pinned (OpenSpec.upto receiptGasSpec)

/-- 'waybilllaw17.ReceiptFinds', WHERE WHAT IT READS IS OF BULK AT MOST 1048576: true; the input reads as it did. -/
def receiptFindsUptoRow : OpenClaim := { program := "ytojnakdlnlcmiaadoor", sum := "954d395f6f7f38679aa883513c4ad76e4a27ac9cbb197790d93dac4b96bf8539", func := "waybill/waybilllaw17.ReceiptFinds", spec := "receiptFinds", named := ["waybill/waybillplay.markAddress", "waybill/waybillplay.markHash"], apart := false, laid := [("waybill/waybillplay.markHash", laid_waybill_waybillplay_markHash), ("waybill/waybillplay.markAddress", laid_waybill_waybillplay_markAddress)], narrowed := true }
def ReceiptFindsUptoSaid : Prop := receiptFindsUptoRow.holds Tryd.pinned (OpenSpec.upto receiptFindsSpec)

/-- 'waybilllaw17.ReceiptMakes', WHERE WHAT IT READS IS OF BULK AT MOST 1048576: true; the input reads as it did. -/
def receiptMakesUptoRow : OpenClaim := { program := "ytojnakdlnlcmiaadoor", sum := "954d395f6f7f38679aa883513c4ad76e4a27ac9cbb197790d93dac4b96bf8539", func := "waybill/waybilllaw17.ReceiptMakes", spec := "receiptMakes", named := ["waybill/keccak.first", "waybill/waybillref02.rounds", "waybill/waybillref02.turns"], apart := false, laid := [("waybill/keccak.first", laid_waybill_keccak_first), ("waybill/waybillref02.rounds", laid_waybill_waybillref02_rounds), ("waybill/waybillref02.turns", laid_waybill_waybillref02_turns)], narrowed := true }
def ReceiptMakesUptoSaid : Prop := receiptMakesUptoRow.holds Tryd.pinned (OpenSpec.upto receiptMakesSpec)

/-- 'waybilllaw17.ReceiptBlooms', WHERE WHAT IT READS IS OF BULK AT MOST 1048576: true; the input reads as it did. -/
def receiptBloomsUptoRow : OpenClaim := { program := "ytojnakdlnlcmiaadoor", sum := "954d395f6f7f38679aa883513c4ad76e4a27ac9cbb197790d93dac4b96bf8539", func := "waybill/waybilllaw17.ReceiptBlooms", spec := "receiptBlooms", named := ["waybill/keccak.first"], apart := false, laid := [("waybill/keccak.first", laid_waybill_keccak_first)], narrowed := true }
def ReceiptBloomsUptoSaid : Prop := receiptBloomsUptoRow.holds Tryd.pinned (OpenSpec.upto receiptBloomsSpec)

/-- 'waybilllaw17.ReceiptWrites', WHERE WHAT IT READS IS OF BULK AT MOST 1048576: true; the input reads as it did. -/
def receiptWritesUptoRow : OpenClaim := { program := "ytojnakdlnlcmiaadoor", sum := "954d395f6f7f38679aa883513c4ad76e4a27ac9cbb197790d93dac4b96bf8539", func := "waybill/waybilllaw17.ReceiptWrites", spec := "receiptWrites", recurses := true, named := ["waybill/keccak.first", "waybill/waybillref02.rounds", "waybill/waybillref02.turns"], apart := false, laid := [("waybill/keccak.first", laid_waybill_keccak_first), ("waybill/waybillref02.rounds", laid_waybill_waybillref02_rounds), ("waybill/waybillref02.turns", laid_waybill_waybillref02_turns)], narrowed := true }
def ReceiptWritesUptoSaid : Prop := receiptWritesUptoRow.holds Tryd.pinned (OpenSpec.upto receiptWritesSpec)

/-- 'waybilllaw17.ReceiptReads', WHERE WHAT IT READS IS OF BULK AT MOST 1048576: true; the input reads as it did. -/
def receiptReadsUptoRow : OpenClaim := { program := "ytojnakdlnlcmiaadoor", sum := "954d395f6f7f38679aa883513c4ad76e4a27ac9cbb197790d93dac4b96bf8539", func := "waybill/waybilllaw17.ReceiptReads", spec := "receiptReads", inPlace := ["math/bits.Sub64"], recurses := true, named := ["waybill/keccak.first", "waybill/waybillref02.rounds", "waybill/waybillref02.turns"], apart := false, laid := [("waybill/keccak.first", laid_waybill_keccak_first), ("waybill/waybillref02.rounds", laid_waybill_waybillref02_rounds), ("waybill/waybillref02.turns", laid_waybill_waybillref02_turns)], narrowed := true }
def ReceiptReadsUptoSaid : Prop := receiptReadsUptoRow.holds Tryd.pinned (OpenSpec.upto receiptReadsSpec)

/-- 'waybilllaw17.ReceiptBack', WHERE WHAT IT READS IS OF BULK AT MOST 1048576: true; the input reads as it did. -/
def receiptBackUptoRow : OpenClaim := { program := "ytojnakdlnlcmiaadoor", sum := "954d395f6f7f38679aa883513c4ad76e4a27ac9cbb197790d93dac4b96bf8539", func := "waybill/waybilllaw17.ReceiptBack", spec := "receiptBack", inPlace := ["math/bits.Sub64"], recurses := true, named := ["waybill/keccak.first"], apart := false, laid := [("waybill/keccak.first", laid_waybill_keccak_first)], narrowed := true }
def ReceiptBackUptoSaid : Prop := receiptBackUptoRow.holds Tryd.pinned (OpenSpec.upto receiptBackSpec)

/-- 'waybilllaw17.ReceiptOne', WHERE WHAT IT READS IS OF BULK AT MOST 1048576: true; the input reads as it did. -/
def receiptOneUptoRow : OpenClaim := { program := "ytojnakdlnlcmiaadoor", sum := "954d395f6f7f38679aa883513c4ad76e4a27ac9cbb197790d93dac4b96bf8539", func := "waybill/waybilllaw17.ReceiptOne", spec := "receiptOne", inPlace := ["math/bits.Sub64"], recurses := true, named := ["waybill/keccak.first"], apart := false, laid := [("waybill/keccak.first", laid_waybill_keccak_first)], narrowed := true }
def ReceiptOneUptoSaid : Prop := receiptOneUptoRow.holds Tryd.pinned (OpenSpec.upto receiptOneSpec)

/-- 'waybilllaw17.ReceiptSpoilt', WHERE WHAT IT READS IS OF BULK AT MOST 1048576: true; the input reads as it did. -/
def receiptSpoiltUptoRow : OpenClaim := { program := "ytojnakdlnlcmiaadoor", sum := "954d395f6f7f38679aa883513c4ad76e4a27ac9cbb197790d93dac4b96bf8539", func := "waybill/waybilllaw17.ReceiptSpoilt", spec := "receiptSpoilt", inPlace := ["math/bits.Sub64"], recurses := true, named := ["waybill/keccak.first"], apart := false, laid := [("waybill/keccak.first", laid_waybill_keccak_first)], narrowed := true }
def ReceiptSpoiltUptoSaid : Prop := receiptSpoiltUptoRow.holds Tryd.pinned (OpenSpec.upto receiptSpoiltSpec)

end Rows
end Go.Proofs.YtojnakdlnlcmiaaDoor
