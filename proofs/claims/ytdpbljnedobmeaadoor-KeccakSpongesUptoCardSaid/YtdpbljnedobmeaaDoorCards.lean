/-
  DERIVED. GIVEN WITH THE SEED: THE CARDS: each row of YtdpbljnedobmeaaDoorRows.lean that lists a variable, with what it lists TIED to the program's text (the seventh form; the later family's looks); each row that meets fmt, with fmt's text TOLD by the authors' own Lean function (tested against real Go, not proved from fmt's source: count such statements apart). THE CARD IS WHAT COUNTS. Prove the row's statement (the work); the ties are given (YtdpbljnedobmeaaDoorTie.lean); close each card by the builder's one call (the guide's Derived/Test/ToyasCard.lean, 'card_holds'). Laid BY PROGRAM, IN A SANDBOX (cutbox-door.mjs). By AI agents, Wed Nov 11 2026. No macro, syntax, notation, axiom, sorry.
-/
import Derived.Test.YtdpbljnedobmeaaDoorRows
import GoSem.ClaimSeven
namespace Go.Proofs.YtdpbljnedobmeaaDoor
namespace Rows

/-- THE TIED CARD OF 'waybilllaw03.ShaPlays'. -/
def shaPlaysCard : Claim7 := { stood := { row := shaPlaysRow, standIns := [], harness := (true, "78547dcbf2182ff4087faf5f73117e107b3c932e57667737933175b811cf9834"), looks := false }, kinds := [], alts := [], laidByText := true, laidKinds := [.data, .data], laidTests := true, laidLooks := .later }
def ShaPlaysCardSaid : Prop := Claim7.holds Tryd.pinned (.plain (OpenSpec.ofChange shaPlaysSpec)) shaPlaysCard

/-- THE TIED CARD OF 'waybilllaw02.KeccakSponges'. -/
def keccakSpongesCard : Claim7 := { stood := { row := keccakSpongesRow, standIns := [], harness := (true, "78547dcbf2182ff4087faf5f73117e107b3c932e57667737933175b811cf9834"), looks := false }, kinds := [], alts := [], laidByText := true, laidKinds := [.data, .data, .data], laidTests := true, laidLooks := .later }
def KeccakSpongesCardSaid : Prop := Claim7.holds Tryd.pinned (.plain (OpenSpec.ofChange keccakSpongesSpec)) keccakSpongesCard

/-- THE TIED CARD OF 'waybilllaw02.KeccakMany'. -/
def keccakManyCard : Claim7 := { stood := { row := keccakManyRow, standIns := [], harness := (true, "78547dcbf2182ff4087faf5f73117e107b3c932e57667737933175b811cf9834"), looks := false }, kinds := [], alts := [], goes := true, laidByText := true, laidKinds := [.data, .data, .data], laidTests := true, laidLooks := .later }
def KeccakManyCardSaid : Prop := Claim7.holds Tryd.pinned (.plain (OpenSpec.ofChange keccakManySpec)) keccakManyCard

/-- THE TIED CARD OF 'waybilllaw02.KeccakKnown'. -/
def keccakKnownCard : Claim7 := { stood := { row := keccakKnownRow, standIns := [], harness := (true, "78547dcbf2182ff4087faf5f73117e107b3c932e57667737933175b811cf9834"), looks := false }, kinds := [], alts := [], goes := true, laidByText := true, laidKinds := [.data], laidTests := true, laidLooks := .later }
def KeccakKnownCardSaid : Prop := Claim7.holds Tryd.pinned (.plain (OpenSpec.ofChange keccakKnownSpec)) keccakKnownCard

/-- THE TIED CARD OF 'waybilllaw10.BloomMany'. -/
def bloomManyCard : Claim7 := { stood := { row := bloomManyRow, standIns := [], harness := (true, "78547dcbf2182ff4087faf5f73117e107b3c932e57667737933175b811cf9834"), looks := false }, kinds := [], alts := [], goes := true, laidByText := true, laidKinds := [.data, .data, .data], laidTests := true, laidLooks := .later }
def BloomManyCardSaid : Prop := Claim7.holds Tryd.pinned (.plain (OpenSpec.ofChange bloomManySpec)) bloomManyCard

/-- THE SECOND FORM's CARD OF 'waybilllaw03.ShaPlays'. -/
def shaPlaysUptoCard : Claim7 := { stood := { row := shaPlaysUptoRow, standIns := [], harness := (true, "78547dcbf2182ff4087faf5f73117e107b3c932e57667737933175b811cf9834"), looks := false }, kinds := [], alts := [], laidByText := true, laidKinds := [.data, .data], laidTests := true, laidLooks := .later }
def ShaPlaysUptoCardSaid : Prop := Claim7.holds Tryd.pinned (.plain (OpenSpec.upto shaPlaysSpec)) shaPlaysUptoCard

/-- THE SECOND FORM's CARD OF 'waybilllaw02.KeccakSponges'. -/
def keccakSpongesUptoCard : Claim7 := { stood := { row := keccakSpongesUptoRow, standIns := [], harness := (true, "78547dcbf2182ff4087faf5f73117e107b3c932e57667737933175b811cf9834"), looks := false }, kinds := [], alts := [], laidByText := true, laidKinds := [.data, .data, .data], laidTests := true, laidLooks := .later }
def KeccakSpongesUptoCardSaid : Prop := Claim7.holds Tryd.pinned (.plain (OpenSpec.upto keccakSpongesSpec)) keccakSpongesUptoCard

/-- THE SECOND FORM's CARD OF 'waybilllaw02.KeccakMany'. -/
def keccakManyUptoCard : Claim7 := { stood := { row := keccakManyUptoRow, standIns := [], harness := (true, "78547dcbf2182ff4087faf5f73117e107b3c932e57667737933175b811cf9834"), looks := false }, kinds := [], alts := [], goes := true, laidByText := true, laidKinds := [.data, .data, .data], laidTests := true, laidLooks := .later }
def KeccakManyUptoCardSaid : Prop := Claim7.holds Tryd.pinned (.plain (OpenSpec.upto keccakManySpec)) keccakManyUptoCard

/-- THE SECOND FORM's CARD OF 'waybilllaw02.KeccakKnown'. -/
def keccakKnownUptoCard : Claim7 := { stood := { row := keccakKnownUptoRow, standIns := [], harness := (true, "78547dcbf2182ff4087faf5f73117e107b3c932e57667737933175b811cf9834"), looks := false }, kinds := [], alts := [], goes := true, laidByText := true, laidKinds := [.data], laidTests := true, laidLooks := .later }
def KeccakKnownUptoCardSaid : Prop := Claim7.holds Tryd.pinned (.plain (OpenSpec.upto keccakKnownSpec)) keccakKnownUptoCard

/-- THE SECOND FORM's CARD OF 'waybilllaw10.BloomMany'. -/
def bloomManyUptoCard : Claim7 := { stood := { row := bloomManyUptoRow, standIns := [], harness := (true, "78547dcbf2182ff4087faf5f73117e107b3c932e57667737933175b811cf9834"), looks := false }, kinds := [], alts := [], goes := true, laidByText := true, laidKinds := [.data, .data, .data], laidTests := true, laidLooks := .later }
def BloomManyUptoCardSaid : Prop := Claim7.holds Tryd.pinned (.plain (OpenSpec.upto bloomManySpec)) bloomManyUptoCard
end Rows
end Go.Proofs.YtdpbljnedobmeaaDoor
