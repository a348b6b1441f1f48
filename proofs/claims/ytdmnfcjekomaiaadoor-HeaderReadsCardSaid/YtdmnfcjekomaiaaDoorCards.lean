/-
  DERIVED. GIVEN WITH THE SEED: THE CARDS: each row of YtdmnfcjekomaiaaDoorRows.lean that lists a variable, with what it lists TIED to the program's text (the seventh form; the later family's looks); each row that meets fmt, with fmt's text TOLD by the authors' own Lean function (tested against real Go, not proved from fmt's source: count such statements apart). THE CARD IS WHAT COUNTS. Prove the row's statement (the work); the ties are given (YtdmnfcjekomaiaaDoorTie.lean); close each card by the builder's one call (the guide's Derived/Test/ToyasCard.lean, 'card_holds'). Laid BY PROGRAM, IN A SANDBOX (cutbox-door.mjs). By AI agents, Wed Nov 11 2026. No macro, syntax, notation, axiom, sorry.
-/
import Derived.Test.YtdmnfcjekomaiaaDoorRows
import GoSem.ClaimSeven
namespace Go.Proofs.YtdmnfcjekomaiaaDoor
namespace Rows

/-- THE TIED CARD OF 'waybilllaw19.HeaderReads'. -/
def headerReadsCard : Claim7 := { stood := { row := headerReadsRow, standIns := [], harness := (true, "03c229be4958c2c8472df8ea753bcb114a91a8fe51a40b4ff97d783327b43fd4"), looks := false }, kinds := [], alts := [], laidByText := true, laidKinds := [.data], laidTests := true, laidLooks := .later }
def HeaderReadsCardSaid : Prop := Claim7.holds Tryd.pinned (.plain (OpenSpec.ofChange headerReadsSpec)) headerReadsCard

/-- THE TIED CARD OF 'waybilllaw19.HeaderPacks'. -/
def headerPacksCard : Claim7 := { stood := { row := headerPacksRow, standIns := [], harness := (true, "03c229be4958c2c8472df8ea753bcb114a91a8fe51a40b4ff97d783327b43fd4"), looks := false }, kinds := [], alts := [], laidByText := true, laidKinds := [.data, .data, .data], laidTests := true, laidLooks := .later }
def HeaderPacksCardSaid : Prop := Claim7.holds Tryd.pinned (.plain (OpenSpec.ofChange headerPacksSpec)) headerPacksCard

/-- THE TIED CARD OF 'waybilllaw19.HeaderBack'. -/
def headerBackCard : Claim7 := { stood := { row := headerBackRow, standIns := [], harness := (true, "03c229be4958c2c8472df8ea753bcb114a91a8fe51a40b4ff97d783327b43fd4"), looks := false }, kinds := [], alts := [], laidByText := true, laidKinds := [.data, .data], laidTests := true, laidLooks := .later }
def HeaderBackCardSaid : Prop := Claim7.holds Tryd.pinned (.plain (OpenSpec.ofChange headerBackSpec)) headerBackCard

/-- THE TIED CARD OF 'waybilllaw19.HeaderLimits'. -/
def headerLimitsCard : Claim7 := { stood := { row := headerLimitsRow, standIns := [], harness := (true, "03c229be4958c2c8472df8ea753bcb114a91a8fe51a40b4ff97d783327b43fd4"), looks := false }, kinds := [], alts := [], laidByText := true, laidKinds := [.data, .data, .data], laidTests := true, laidLooks := .later }
def HeaderLimitsCardSaid : Prop := Claim7.holds Tryd.pinned (.plain (OpenSpec.ofChange headerLimitsSpec)) headerLimitsCard

/-- THE TIED CARD OF 'waybilllaw19.HeaderGrows'. -/
def headerGrowsCard : Claim7 := { stood := { row := headerGrowsRow, standIns := [], harness := (true, "03c229be4958c2c8472df8ea753bcb114a91a8fe51a40b4ff97d783327b43fd4"), looks := false }, kinds := [], alts := [], laidByText := true, laidKinds := [.data, .data, .data], laidTests := true, laidLooks := .later }
def HeaderGrowsCardSaid : Prop := Claim7.holds Tryd.pinned (.plain (OpenSpec.ofChange headerGrowsSpec)) headerGrowsCard

/-- THE TIED CARD OF 'waybilllaw19.HeaderFields'. -/
def headerFieldsCard : Claim7 := { stood := { row := headerFieldsRow, standIns := [], harness := (true, "03c229be4958c2c8472df8ea753bcb114a91a8fe51a40b4ff97d783327b43fd4"), looks := false }, kinds := [], alts := [], laidByText := true, laidKinds := [.data, .data, .data, .data], laidTests := true, laidLooks := .later }
def HeaderFieldsCardSaid : Prop := Claim7.holds Tryd.pinned (.plain (OpenSpec.ofChange headerFieldsSpec)) headerFieldsCard

/-- THE SECOND FORM's CARD OF 'waybilllaw19.HeaderReads'. -/
def headerReadsUptoCard : Claim7 := { stood := { row := headerReadsUptoRow, standIns := [], harness := (true, "03c229be4958c2c8472df8ea753bcb114a91a8fe51a40b4ff97d783327b43fd4"), looks := false }, kinds := [], alts := [], laidByText := true, laidKinds := [.data], laidTests := true, laidLooks := .later }
def HeaderReadsUptoCardSaid : Prop := Claim7.holds Tryd.pinned (.plain (OpenSpec.upto headerReadsSpec)) headerReadsUptoCard

/-- THE SECOND FORM's CARD OF 'waybilllaw19.HeaderPacks'. -/
def headerPacksUptoCard : Claim7 := { stood := { row := headerPacksUptoRow, standIns := [], harness := (true, "03c229be4958c2c8472df8ea753bcb114a91a8fe51a40b4ff97d783327b43fd4"), looks := false }, kinds := [], alts := [], laidByText := true, laidKinds := [.data, .data, .data], laidTests := true, laidLooks := .later }
def HeaderPacksUptoCardSaid : Prop := Claim7.holds Tryd.pinned (.plain (OpenSpec.upto headerPacksSpec)) headerPacksUptoCard

/-- THE SECOND FORM's CARD OF 'waybilllaw19.HeaderBack'. -/
def headerBackUptoCard : Claim7 := { stood := { row := headerBackUptoRow, standIns := [], harness := (true, "03c229be4958c2c8472df8ea753bcb114a91a8fe51a40b4ff97d783327b43fd4"), looks := false }, kinds := [], alts := [], laidByText := true, laidKinds := [.data, .data], laidTests := true, laidLooks := .later }
def HeaderBackUptoCardSaid : Prop := Claim7.holds Tryd.pinned (.plain (OpenSpec.upto headerBackSpec)) headerBackUptoCard

/-- THE SECOND FORM's CARD OF 'waybilllaw19.HeaderLimits'. -/
def headerLimitsUptoCard : Claim7 := { stood := { row := headerLimitsUptoRow, standIns := [], harness := (true, "03c229be4958c2c8472df8ea753bcb114a91a8fe51a40b4ff97d783327b43fd4"), looks := false }, kinds := [], alts := [], laidByText := true, laidKinds := [.data, .data, .data], laidTests := true, laidLooks := .later }
def HeaderLimitsUptoCardSaid : Prop := Claim7.holds Tryd.pinned (.plain (OpenSpec.upto headerLimitsSpec)) headerLimitsUptoCard

/-- THE SECOND FORM's CARD OF 'waybilllaw19.HeaderGrows'. -/
def headerGrowsUptoCard : Claim7 := { stood := { row := headerGrowsUptoRow, standIns := [], harness := (true, "03c229be4958c2c8472df8ea753bcb114a91a8fe51a40b4ff97d783327b43fd4"), looks := false }, kinds := [], alts := [], laidByText := true, laidKinds := [.data, .data, .data], laidTests := true, laidLooks := .later }
def HeaderGrowsUptoCardSaid : Prop := Claim7.holds Tryd.pinned (.plain (OpenSpec.upto headerGrowsSpec)) headerGrowsUptoCard

/-- THE SECOND FORM's CARD OF 'waybilllaw19.HeaderFields'. -/
def headerFieldsUptoCard : Claim7 := { stood := { row := headerFieldsUptoRow, standIns := [], harness := (true, "03c229be4958c2c8472df8ea753bcb114a91a8fe51a40b4ff97d783327b43fd4"), looks := false }, kinds := [], alts := [], laidByText := true, laidKinds := [.data, .data, .data, .data], laidTests := true, laidLooks := .later }
def HeaderFieldsUptoCardSaid : Prop := Claim7.holds Tryd.pinned (.plain (OpenSpec.upto headerFieldsSpec)) headerFieldsUptoCard
end Rows
end Go.Proofs.YtdmnfcjekomaiaaDoor
