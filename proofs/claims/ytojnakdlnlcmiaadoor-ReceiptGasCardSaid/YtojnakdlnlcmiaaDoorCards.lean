/-
  DERIVED. GIVEN WITH THE SEED: THE CARDS: each row of YtojnakdlnlcmiaaDoorRows.lean that lists a variable, with what it lists TIED to the program's text (the seventh form; the later family's looks); each row that meets fmt, with fmt's text TOLD by the authors' own Lean function (tested against real Go, not proved from fmt's source: count such statements apart). THE CARD IS WHAT COUNTS. Prove the row's statement (the work); the ties are given (YtojnakdlnlcmiaaDoorTie.lean); close each card by the builder's one call (the guide's Derived/Test/ToyasCard.lean, 'card_holds'). Laid BY PROGRAM, IN A SANDBOX (cutbox-door.mjs). By AI agents, Wed Nov 11 2026. No macro, syntax, notation, axiom, sorry.
-/
import Derived.Test.YtojnakdlnlcmiaaDoorRows
import GoSem.ClaimSeven
namespace Go.Proofs.YtojnakdlnlcmiaaDoor
namespace Rows

/-- THE TIED CARD OF 'waybilllaw17.ReceiptGas'. -/
def receiptGasCard : Claim7 := { stood := { row := receiptGasRow, standIns := [], harness := (true, "7c38d314c93324b87f3fd5313f7bc93a2f257a14da18a28ea14e84c0feadac03"), looks := false }, kinds := [], alts := [], laidByText := true, laidKinds := [.data, .data], laidTests := true, laidLooks := .later }
def ReceiptGasCardSaid : Prop := Claim7.holds Tryd.pinned (.plain (OpenSpec.ofChange receiptGasSpec)) receiptGasCard

/-- THE TIED CARD OF 'waybilllaw17.ReceiptFinds'. -/
def receiptFindsCard : Claim7 := { stood := { row := receiptFindsRow, standIns := [], harness := (true, "7c38d314c93324b87f3fd5313f7bc93a2f257a14da18a28ea14e84c0feadac03"), looks := false }, kinds := [], alts := [], laidByText := true, laidKinds := [.data, .data], laidTests := true, laidLooks := .later }
def ReceiptFindsCardSaid : Prop := Claim7.holds Tryd.pinned (.plain (OpenSpec.ofChange receiptFindsSpec)) receiptFindsCard

/-- THE TIED CARD OF 'waybilllaw17.ReceiptMakes'. -/
def receiptMakesCard : Claim7 := { stood := { row := receiptMakesRow, standIns := [], harness := (true, "7c38d314c93324b87f3fd5313f7bc93a2f257a14da18a28ea14e84c0feadac03"), looks := false }, kinds := [], alts := [], laidByText := true, laidKinds := [.data, .data, .data], laidTests := true, laidLooks := .later }
def ReceiptMakesCardSaid : Prop := Claim7.holds Tryd.pinned (.plain (OpenSpec.ofChange receiptMakesSpec)) receiptMakesCard

/-- THE TIED CARD OF 'waybilllaw17.ReceiptBlooms'. -/
def receiptBloomsCard : Claim7 := { stood := { row := receiptBloomsRow, standIns := [], harness := (true, "7c38d314c93324b87f3fd5313f7bc93a2f257a14da18a28ea14e84c0feadac03"), looks := false }, kinds := [], alts := [], laidByText := true, laidKinds := [.data], laidTests := true, laidLooks := .later }
def ReceiptBloomsCardSaid : Prop := Claim7.holds Tryd.pinned (.plain (OpenSpec.ofChange receiptBloomsSpec)) receiptBloomsCard

/-- THE TIED CARD OF 'waybilllaw17.ReceiptWrites'. -/
def receiptWritesCard : Claim7 := { stood := { row := receiptWritesRow, standIns := [], harness := (true, "7c38d314c93324b87f3fd5313f7bc93a2f257a14da18a28ea14e84c0feadac03"), looks := false }, kinds := [], alts := [], laidByText := true, laidKinds := [.data, .data, .data], laidTests := true, laidLooks := .later }
def ReceiptWritesCardSaid : Prop := Claim7.holds Tryd.pinned (.plain (OpenSpec.ofChange receiptWritesSpec)) receiptWritesCard

/-- THE TIED CARD OF 'waybilllaw17.ReceiptReads'. -/
def receiptReadsCard : Claim7 := { stood := { row := receiptReadsRow, standIns := [], harness := (true, "7c38d314c93324b87f3fd5313f7bc93a2f257a14da18a28ea14e84c0feadac03"), looks := false }, kinds := [], alts := [], laidByText := true, laidKinds := [.data, .data, .data], laidTests := true, laidLooks := .later }
def ReceiptReadsCardSaid : Prop := Claim7.holds Tryd.pinned (.plain (OpenSpec.ofChange receiptReadsSpec)) receiptReadsCard

/-- THE TIED CARD OF 'waybilllaw17.ReceiptBack'. -/
def receiptBackCard : Claim7 := { stood := { row := receiptBackRow, standIns := [], harness := (true, "7c38d314c93324b87f3fd5313f7bc93a2f257a14da18a28ea14e84c0feadac03"), looks := false }, kinds := [], alts := [], laidByText := true, laidKinds := [.data], laidTests := true, laidLooks := .later }
def ReceiptBackCardSaid : Prop := Claim7.holds Tryd.pinned (.plain (OpenSpec.ofChange receiptBackSpec)) receiptBackCard

/-- THE TIED CARD OF 'waybilllaw17.ReceiptOne'. -/
def receiptOneCard : Claim7 := { stood := { row := receiptOneRow, standIns := [], harness := (true, "7c38d314c93324b87f3fd5313f7bc93a2f257a14da18a28ea14e84c0feadac03"), looks := false }, kinds := [], alts := [], laidByText := true, laidKinds := [.data], laidTests := true, laidLooks := .later }
def ReceiptOneCardSaid : Prop := Claim7.holds Tryd.pinned (.plain (OpenSpec.ofChange receiptOneSpec)) receiptOneCard

/-- THE TIED CARD OF 'waybilllaw17.ReceiptSpoilt'. -/
def receiptSpoiltCard : Claim7 := { stood := { row := receiptSpoiltRow, standIns := [], harness := (true, "7c38d314c93324b87f3fd5313f7bc93a2f257a14da18a28ea14e84c0feadac03"), looks := false }, kinds := [], alts := [], laidByText := true, laidKinds := [.data], laidTests := true, laidLooks := .later }
def ReceiptSpoiltCardSaid : Prop := Claim7.holds Tryd.pinned (.plain (OpenSpec.ofChange receiptSpoiltSpec)) receiptSpoiltCard

/-- THE SECOND FORM's CARD OF 'waybilllaw17.ReceiptGas'. -/
def receiptGasUptoCard : Claim7 := { stood := { row := receiptGasUptoRow, standIns := [], harness := (true, "7c38d314c93324b87f3fd5313f7bc93a2f257a14da18a28ea14e84c0feadac03"), looks := false }, kinds := [], alts := [], laidByText := true, laidKinds := [.data, .data], laidTests := true, laidLooks := .later }
def ReceiptGasUptoCardSaid : Prop := Claim7.holds Tryd.pinned (.plain (OpenSpec.upto receiptGasSpec)) receiptGasUptoCard

/-- THE SECOND FORM's CARD OF 'waybilllaw17.ReceiptFinds'. -/
def receiptFindsUptoCard : Claim7 := { stood := { row := receiptFindsUptoRow, standIns := [], harness := (true, "7c38d314c93324b87f3fd5313f7bc93a2f257a14da18a28ea14e84c0feadac03"), looks := false }, kinds := [], alts := [], laidByText := true, laidKinds := [.data, .data], laidTests := true, laidLooks := .later }
def ReceiptFindsUptoCardSaid : Prop := Claim7.holds Tryd.pinned (.plain (OpenSpec.upto receiptFindsSpec)) receiptFindsUptoCard

/-- THE SECOND FORM's CARD OF 'waybilllaw17.ReceiptMakes'. -/
def receiptMakesUptoCard : Claim7 := { stood := { row := receiptMakesUptoRow, standIns := [], harness := (true, "7c38d314c93324b87f3fd5313f7bc93a2f257a14da18a28ea14e84c0feadac03"), looks := false }, kinds := [], alts := [], laidByText := true, laidKinds := [.data, .data, .data], laidTests := true, laidLooks := .later }
def ReceiptMakesUptoCardSaid : Prop := Claim7.holds Tryd.pinned (.plain (OpenSpec.upto receiptMakesSpec)) receiptMakesUptoCard

/-- THE SECOND FORM's CARD OF 'waybilllaw17.ReceiptBlooms'. -/
def receiptBloomsUptoCard : Claim7 := { stood := { row := receiptBloomsUptoRow, standIns := [], harness := (true, "7c38d314c93324b87f3fd5313f7bc93a2f257a14da18a28ea14e84c0feadac03"), looks := false }, kinds := [], alts := [], laidByText := true, laidKinds := [.data], laidTests := true, laidLooks := .later }
def ReceiptBloomsUptoCardSaid : Prop := Claim7.holds Tryd.pinned (.plain (OpenSpec.upto receiptBloomsSpec)) receiptBloomsUptoCard

/-- THE SECOND FORM's CARD OF 'waybilllaw17.ReceiptWrites'. -/
def receiptWritesUptoCard : Claim7 := { stood := { row := receiptWritesUptoRow, standIns := [], harness := (true, "7c38d314c93324b87f3fd5313f7bc93a2f257a14da18a28ea14e84c0feadac03"), looks := false }, kinds := [], alts := [], laidByText := true, laidKinds := [.data, .data, .data], laidTests := true, laidLooks := .later }
def ReceiptWritesUptoCardSaid : Prop := Claim7.holds Tryd.pinned (.plain (OpenSpec.upto receiptWritesSpec)) receiptWritesUptoCard

/-- THE SECOND FORM's CARD OF 'waybilllaw17.ReceiptReads'. -/
def receiptReadsUptoCard : Claim7 := { stood := { row := receiptReadsUptoRow, standIns := [], harness := (true, "7c38d314c93324b87f3fd5313f7bc93a2f257a14da18a28ea14e84c0feadac03"), looks := false }, kinds := [], alts := [], laidByText := true, laidKinds := [.data, .data, .data], laidTests := true, laidLooks := .later }
def ReceiptReadsUptoCardSaid : Prop := Claim7.holds Tryd.pinned (.plain (OpenSpec.upto receiptReadsSpec)) receiptReadsUptoCard

/-- THE SECOND FORM's CARD OF 'waybilllaw17.ReceiptBack'. -/
def receiptBackUptoCard : Claim7 := { stood := { row := receiptBackUptoRow, standIns := [], harness := (true, "7c38d314c93324b87f3fd5313f7bc93a2f257a14da18a28ea14e84c0feadac03"), looks := false }, kinds := [], alts := [], laidByText := true, laidKinds := [.data], laidTests := true, laidLooks := .later }
def ReceiptBackUptoCardSaid : Prop := Claim7.holds Tryd.pinned (.plain (OpenSpec.upto receiptBackSpec)) receiptBackUptoCard

/-- THE SECOND FORM's CARD OF 'waybilllaw17.ReceiptOne'. -/
def receiptOneUptoCard : Claim7 := { stood := { row := receiptOneUptoRow, standIns := [], harness := (true, "7c38d314c93324b87f3fd5313f7bc93a2f257a14da18a28ea14e84c0feadac03"), looks := false }, kinds := [], alts := [], laidByText := true, laidKinds := [.data], laidTests := true, laidLooks := .later }
def ReceiptOneUptoCardSaid : Prop := Claim7.holds Tryd.pinned (.plain (OpenSpec.upto receiptOneSpec)) receiptOneUptoCard

/-- THE SECOND FORM's CARD OF 'waybilllaw17.ReceiptSpoilt'. -/
def receiptSpoiltUptoCard : Claim7 := { stood := { row := receiptSpoiltUptoRow, standIns := [], harness := (true, "7c38d314c93324b87f3fd5313f7bc93a2f257a14da18a28ea14e84c0feadac03"), looks := false }, kinds := [], alts := [], laidByText := true, laidKinds := [.data], laidTests := true, laidLooks := .later }
def ReceiptSpoiltUptoCardSaid : Prop := Claim7.holds Tryd.pinned (.plain (OpenSpec.upto receiptSpoiltSpec)) receiptSpoiltUptoCard
end Rows
end Go.Proofs.YtojnakdlnlcmiaaDoor
