/-
  DERIVED. GIVEN WITH THE SEED: THE CARDS: each row of YtogfjkomkpbjpaaDoorRows.lean that lists a variable, with what it lists TIED to the program's text (the seventh form; the later family's looks); each row that meets fmt, with fmt's text TOLD by the authors' own Lean function (tested against real Go, not proved from fmt's source: count such statements apart). THE CARD IS WHAT COUNTS. Prove the row's statement (the work); the ties are given (YtogfjkomkpbjpaaDoorTie.lean); close each card by the builder's one call (the guide's Derived/Test/ToyasCard.lean, 'card_holds'). Laid BY PROGRAM, IN A SANDBOX (cutbox-door.mjs). By AI agents, Wed Nov 11 2026. No macro, syntax, notation, axiom, sorry.
-/
import Derived.Test.YtogfjkomkpbjpaaDoorRows
import GoSem.ClaimSeven
namespace Go.Proofs.YtogfjkomkpbjpaaDoor
namespace Rows

/-- THE TIED CARD OF 'waybilllaw02.KeccakPermutes'. -/
def keccakPermutesCard : Claim7 := { stood := { row := keccakPermutesRow, standIns := [], harness := (true, "cb635bc82fc0261942d83c3dba375d3a578ecec41c23432bc12bab717c1eff4f"), looks := false }, kinds := [], alts := [], laidByText := true, laidKinds := [.data, .data], laidTests := true, laidLooks := .later }
def KeccakPermutesCardSaid : Prop := Claim7.holds Tryd.pinned (.plain (OpenSpec.ofChange keccakPermutesSpec)) keccakPermutesCard

/-- THE TIED CARD OF 'waybilllaw02.KeccakSums'. -/
def keccakSumsCard : Claim7 := { stood := { row := keccakSumsRow, standIns := [], harness := (true, "cb635bc82fc0261942d83c3dba375d3a578ecec41c23432bc12bab717c1eff4f"), looks := false }, kinds := [], alts := [], laidByText := true, laidKinds := [.data, .data, .data], laidTests := true, laidLooks := .later }
def KeccakSumsCardSaid : Prop := Claim7.holds Tryd.pinned (.plain (OpenSpec.ofChange keccakSumsSpec)) keccakSumsCard

/-- THE TIED CARD OF 'waybilllaw02.KeccakCuts'. -/
def keccakCutsCard : Claim7 := { stood := { row := keccakCutsRow, standIns := [], harness := (true, "cb635bc82fc0261942d83c3dba375d3a578ecec41c23432bc12bab717c1eff4f"), looks := false }, kinds := [], alts := [], laidByText := true, laidKinds := [.data], laidTests := true, laidLooks := .later }
def KeccakCutsCardSaid : Prop := Claim7.holds Tryd.pinned (.plain (OpenSpec.ofChange keccakCutsSpec)) keccakCutsCard

/-- THE TIED CARD OF 'waybilllaw02.KeccakSponges'. -/
def keccakSpongesCard : Claim7 := { stood := { row := keccakSpongesRow, standIns := [], harness := (true, "cb635bc82fc0261942d83c3dba375d3a578ecec41c23432bc12bab717c1eff4f"), looks := false }, kinds := [], alts := [], laidByText := true, laidKinds := [.data, .data, .data], laidTests := true, laidLooks := .later }
def KeccakSpongesCardSaid : Prop := Claim7.holds Tryd.pinned (.plain (OpenSpec.ofChange keccakSpongesSpec)) keccakSpongesCard

/-- THE TIED CARD OF 'waybilllaw02.KeccakMany'. -/
def keccakManyCard : Claim7 := { stood := { row := keccakManyRow, standIns := [], harness := (true, "cb635bc82fc0261942d83c3dba375d3a578ecec41c23432bc12bab717c1eff4f"), looks := false }, kinds := [], alts := [], goes := true, laidByText := true, laidKinds := [.data, .data, .data], laidTests := true, laidLooks := .later }
def KeccakManyCardSaid : Prop := Claim7.holds Tryd.pinned (.plain (OpenSpec.ofChange keccakManySpec)) keccakManyCard

/-- THE TIED CARD OF 'waybilllaw02.KeccakKnown'. -/
def keccakKnownCard : Claim7 := { stood := { row := keccakKnownRow, standIns := [], harness := (true, "cb635bc82fc0261942d83c3dba375d3a578ecec41c23432bc12bab717c1eff4f"), looks := false }, kinds := [], alts := [], goes := true, laidByText := true, laidKinds := [.data], laidTests := true, laidLooks := .later }
def KeccakKnownCardSaid : Prop := Claim7.holds Tryd.pinned (.plain (OpenSpec.ofChange keccakKnownSpec)) keccakKnownCard

/-- THE SECOND FORM's CARD OF 'waybilllaw02.KeccakPermutes'. -/
def keccakPermutesUptoCard : Claim7 := { stood := { row := keccakPermutesUptoRow, standIns := [], harness := (true, "cb635bc82fc0261942d83c3dba375d3a578ecec41c23432bc12bab717c1eff4f"), looks := false }, kinds := [], alts := [], laidByText := true, laidKinds := [.data, .data], laidTests := true, laidLooks := .later }
def KeccakPermutesUptoCardSaid : Prop := Claim7.holds Tryd.pinned (.plain (OpenSpec.upto keccakPermutesSpec)) keccakPermutesUptoCard

/-- THE SECOND FORM's CARD OF 'waybilllaw02.KeccakSums'. -/
def keccakSumsUptoCard : Claim7 := { stood := { row := keccakSumsUptoRow, standIns := [], harness := (true, "cb635bc82fc0261942d83c3dba375d3a578ecec41c23432bc12bab717c1eff4f"), looks := false }, kinds := [], alts := [], laidByText := true, laidKinds := [.data, .data, .data], laidTests := true, laidLooks := .later }
def KeccakSumsUptoCardSaid : Prop := Claim7.holds Tryd.pinned (.plain (OpenSpec.upto keccakSumsSpec)) keccakSumsUptoCard

/-- THE SECOND FORM's CARD OF 'waybilllaw02.KeccakCuts'. -/
def keccakCutsUptoCard : Claim7 := { stood := { row := keccakCutsUptoRow, standIns := [], harness := (true, "cb635bc82fc0261942d83c3dba375d3a578ecec41c23432bc12bab717c1eff4f"), looks := false }, kinds := [], alts := [], laidByText := true, laidKinds := [.data], laidTests := true, laidLooks := .later }
def KeccakCutsUptoCardSaid : Prop := Claim7.holds Tryd.pinned (.plain (OpenSpec.upto keccakCutsSpec)) keccakCutsUptoCard

/-- THE SECOND FORM's CARD OF 'waybilllaw02.KeccakSponges'. -/
def keccakSpongesUptoCard : Claim7 := { stood := { row := keccakSpongesUptoRow, standIns := [], harness := (true, "cb635bc82fc0261942d83c3dba375d3a578ecec41c23432bc12bab717c1eff4f"), looks := false }, kinds := [], alts := [], laidByText := true, laidKinds := [.data, .data, .data], laidTests := true, laidLooks := .later }
def KeccakSpongesUptoCardSaid : Prop := Claim7.holds Tryd.pinned (.plain (OpenSpec.upto keccakSpongesSpec)) keccakSpongesUptoCard

/-- THE SECOND FORM's CARD OF 'waybilllaw02.KeccakMany'. -/
def keccakManyUptoCard : Claim7 := { stood := { row := keccakManyUptoRow, standIns := [], harness := (true, "cb635bc82fc0261942d83c3dba375d3a578ecec41c23432bc12bab717c1eff4f"), looks := false }, kinds := [], alts := [], goes := true, laidByText := true, laidKinds := [.data, .data, .data], laidTests := true, laidLooks := .later }
def KeccakManyUptoCardSaid : Prop := Claim7.holds Tryd.pinned (.plain (OpenSpec.upto keccakManySpec)) keccakManyUptoCard

/-- THE SECOND FORM's CARD OF 'waybilllaw02.KeccakKnown'. -/
def keccakKnownUptoCard : Claim7 := { stood := { row := keccakKnownUptoRow, standIns := [], harness := (true, "cb635bc82fc0261942d83c3dba375d3a578ecec41c23432bc12bab717c1eff4f"), looks := false }, kinds := [], alts := [], goes := true, laidByText := true, laidKinds := [.data], laidTests := true, laidLooks := .later }
def KeccakKnownUptoCardSaid : Prop := Claim7.holds Tryd.pinned (.plain (OpenSpec.upto keccakKnownSpec)) keccakKnownUptoCard
end Rows
end Go.Proofs.YtogfjkomkpbjpaaDoor
