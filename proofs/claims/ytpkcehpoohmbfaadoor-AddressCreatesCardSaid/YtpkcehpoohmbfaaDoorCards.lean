/-
  DERIVED. GIVEN WITH THE SEED: THE CARDS: each row of YtpkcehpoohmbfaaDoorRows.lean that lists a variable, with what it lists TIED to the program's text (the seventh form; the later family's looks); each row that meets fmt, with fmt's text TOLD by the authors' own Lean function (tested against real Go, not proved from fmt's source: count such statements apart). THE CARD IS WHAT COUNTS. Prove the row's statement (the work); the ties are given (YtpkcehpoohmbfaaDoorTie.lean); close each card by the builder's one call (the guide's Derived/Test/ToyasCard.lean, 'card_holds'). Laid BY PROGRAM, IN A SANDBOX (cutbox-door.mjs). By AI agents, Wed Nov 11 2026. No macro, syntax, notation, axiom, sorry.
-/
import Derived.Test.YtpkcehpoohmbfaaDoorRows
import GoSem.ClaimSeven
namespace Go.Proofs.YtpkcehpoohmbfaaDoor
namespace Rows

/-- THE TIED CARD OF 'waybilllaw09.AddressCreates'. -/
def addressCreatesCard : Claim7 := { stood := { row := addressCreatesRow, standIns := [], harness := (true, "b717a8de2faef546e92fc7893160eac5b6386da0324a70fca6e0d5002224b0c9"), looks := false }, kinds := [], alts := [], laidByText := true, laidKinds := [.data, .data, .data], laidTests := true, laidLooks := .later }
def AddressCreatesCardSaid : Prop := Claim7.holds Tryd.pinned (.plain (OpenSpec.ofChange addressCreatesSpec)) addressCreatesCard

/-- THE TIED CARD OF 'waybilllaw09.AddressPoints'. -/
def addressPointsCard : Claim7 := { stood := { row := addressPointsRow, standIns := [], harness := (true, "b717a8de2faef546e92fc7893160eac5b6386da0324a70fca6e0d5002224b0c9"), looks := false }, kinds := [], alts := [], laidByText := true, laidKinds := [.data, .data, .data, .data], laidTests := true, laidLooks := .later }
def AddressPointsCardSaid : Prop := Claim7.holds Tryd.pinned (.plain (OpenSpec.ofChange addressPointsSpec)) addressPointsCard

/-- THE TIED CARD OF 'waybilllaw09.AddressRows'. -/
def addressRowsCard : Claim7 := { stood := { row := addressRowsRow, standIns := [], harness := (true, "b717a8de2faef546e92fc7893160eac5b6386da0324a70fca6e0d5002224b0c9"), looks := false }, kinds := [], alts := [], goes := true, laidByText := true, laidKinds := [.data, .data, .data], laidTests := true, laidLooks := .later }
def AddressRowsCardSaid : Prop := Claim7.holds Tryd.pinned (.plain (OpenSpec.ofChange addressRowsSpec)) addressRowsCard

/-- THE TIED CARD OF 'waybilllaw09.AddressRow'. -/
def addressRowCard : Claim7 := { stood := { row := addressRowRow, standIns := [], harness := (true, "b717a8de2faef546e92fc7893160eac5b6386da0324a70fca6e0d5002224b0c9"), looks := false }, kinds := [], alts := [], goes := true, laidByText := true, laidKinds := [.data, .data, .data], laidTests := true, laidLooks := .later }
def AddressRowCardSaid : Prop := Claim7.holds Tryd.pinned (.plain (OpenSpec.ofChange addressRowSpec)) addressRowCard

/-- THE TIED CARD OF 'waybilllaw09.AddressMade'. -/
def addressMadeCard : Claim7 := { stood := { row := addressMadeRow, standIns := [], harness := (true, "b717a8de2faef546e92fc7893160eac5b6386da0324a70fca6e0d5002224b0c9"), looks := false }, kinds := [], alts := [], laidByText := true, laidKinds := [.data, .data, .data], laidTests := true, laidLooks := .later }
def AddressMadeCardSaid : Prop := Claim7.holds Tryd.pinned (.plain (OpenSpec.ofChange addressMadeSpec)) addressMadeCard

/-- THE SECOND FORM's CARD OF 'waybilllaw09.AddressCreates'. -/
def addressCreatesUptoCard : Claim7 := { stood := { row := addressCreatesUptoRow, standIns := [], harness := (true, "b717a8de2faef546e92fc7893160eac5b6386da0324a70fca6e0d5002224b0c9"), looks := false }, kinds := [], alts := [], laidByText := true, laidKinds := [.data, .data, .data], laidTests := true, laidLooks := .later }
def AddressCreatesUptoCardSaid : Prop := Claim7.holds Tryd.pinned (.plain (OpenSpec.upto addressCreatesSpec)) addressCreatesUptoCard

/-- THE SECOND FORM's CARD OF 'waybilllaw09.AddressPoints'. -/
def addressPointsUptoCard : Claim7 := { stood := { row := addressPointsUptoRow, standIns := [], harness := (true, "b717a8de2faef546e92fc7893160eac5b6386da0324a70fca6e0d5002224b0c9"), looks := false }, kinds := [], alts := [], laidByText := true, laidKinds := [.data, .data, .data, .data], laidTests := true, laidLooks := .later }
def AddressPointsUptoCardSaid : Prop := Claim7.holds Tryd.pinned (.plain (OpenSpec.upto addressPointsSpec)) addressPointsUptoCard

/-- THE SECOND FORM's CARD OF 'waybilllaw09.AddressRows'. -/
def addressRowsUptoCard : Claim7 := { stood := { row := addressRowsUptoRow, standIns := [], harness := (true, "b717a8de2faef546e92fc7893160eac5b6386da0324a70fca6e0d5002224b0c9"), looks := false }, kinds := [], alts := [], goes := true, laidByText := true, laidKinds := [.data, .data, .data], laidTests := true, laidLooks := .later }
def AddressRowsUptoCardSaid : Prop := Claim7.holds Tryd.pinned (.plain (OpenSpec.upto addressRowsSpec)) addressRowsUptoCard

/-- THE SECOND FORM's CARD OF 'waybilllaw09.AddressRow'. -/
def addressRowUptoCard : Claim7 := { stood := { row := addressRowUptoRow, standIns := [], harness := (true, "b717a8de2faef546e92fc7893160eac5b6386da0324a70fca6e0d5002224b0c9"), looks := false }, kinds := [], alts := [], goes := true, laidByText := true, laidKinds := [.data, .data, .data], laidTests := true, laidLooks := .later }
def AddressRowUptoCardSaid : Prop := Claim7.holds Tryd.pinned (.plain (OpenSpec.upto addressRowSpec)) addressRowUptoCard

/-- THE SECOND FORM's CARD OF 'waybilllaw09.AddressMade'. -/
def addressMadeUptoCard : Claim7 := { stood := { row := addressMadeUptoRow, standIns := [], harness := (true, "b717a8de2faef546e92fc7893160eac5b6386da0324a70fca6e0d5002224b0c9"), looks := false }, kinds := [], alts := [], laidByText := true, laidKinds := [.data, .data, .data], laidTests := true, laidLooks := .later }
def AddressMadeUptoCardSaid : Prop := Claim7.holds Tryd.pinned (.plain (OpenSpec.upto addressMadeSpec)) addressMadeUptoCard
end Rows
end Go.Proofs.YtpkcehpoohmbfaaDoor
