/-
  DERIVED. GIVEN WITH THE SEED: THE CARDS: each row of YtgonajfngmeanaaDoorRows.lean that lists a variable, with what it lists TIED to the program's text (the seventh form; the later family's looks); each row that meets fmt, with fmt's text TOLD by the authors' own Lean function (tested against real Go, not proved from fmt's source: count such statements apart). THE CARD IS WHAT COUNTS. Prove the row's statement (the work); the ties are given (YtgonajfngmeanaaDoorTie.lean); close each card by the builder's one call (the guide's Derived/Test/ToyasCard.lean, 'card_holds'). Laid BY PROGRAM, IN A SANDBOX (cutbox-door.mjs). By AI agents, Wed Nov 11 2026. No macro, syntax, notation, axiom, sorry.
-/
import Derived.Test.YtgonajfngmeanaaDoorRows
import GoSem.ClaimSeven
namespace Go.Proofs.YtgonajfngmeanaaDoor
namespace Rows

/-- THE TIED CARD OF 'waybilllaw03.ShaBlocks'. -/
def shaBlocksCard : Claim7 := { stood := { row := shaBlocksRow, standIns := [], harness := (true, "d8171a9538177aa33a6b3e648105f7f10c3aeb9156ae4465b375a14988d03f72"), looks := false }, kinds := [], alts := [], laidByText := true, laidKinds := [.data, .data], laidTests := true, laidLooks := .later }
def ShaBlocksCardSaid : Prop := Claim7.holds Tryd.pinned (.plain (OpenSpec.ofChange shaBlocksSpec)) shaBlocksCard

/-- THE TIED CARD OF 'waybilllaw03.ShaSums'. -/
def shaSumsCard : Claim7 := { stood := { row := shaSumsRow, standIns := [], harness := (true, "d8171a9538177aa33a6b3e648105f7f10c3aeb9156ae4465b375a14988d03f72"), looks := false }, kinds := [], alts := [], laidByText := true, laidKinds := [.data, .data], laidTests := true, laidLooks := .later }
def ShaSumsCardSaid : Prop := Claim7.holds Tryd.pinned (.plain (OpenSpec.ofChange shaSumsSpec)) shaSumsCard

/-- THE TIED CARD OF 'waybilllaw03.ShaHangs'. -/
def shaHangsCard : Claim7 := { stood := { row := shaHangsRow, standIns := [], harness := (true, "d8171a9538177aa33a6b3e648105f7f10c3aeb9156ae4465b375a14988d03f72"), looks := false }, kinds := [], alts := [], laidByText := true, laidKinds := [.data, .data], laidTests := true, laidLooks := .later }
def ShaHangsCardSaid : Prop := Claim7.holds Tryd.pinned (.plain (OpenSpec.ofChange shaHangsSpec)) shaHangsCard

/-- THE TIED CARD OF 'waybilllaw03.ShaNil'. -/
def shaNilCard : Claim7 := { stood := { row := shaNilRow, standIns := [], harness := (true, "d8171a9538177aa33a6b3e648105f7f10c3aeb9156ae4465b375a14988d03f72"), looks := false }, kinds := [], alts := [], laidByText := true, laidKinds := [.data, .data], laidTests := true, laidLooks := .later }
def ShaNilCardSaid : Prop := Claim7.holds Tryd.pinned (.plain (OpenSpec.ofChange shaNilSpec)) shaNilCard

/-- THE TIED CARD OF 'waybilllaw03.ShaPlays'. -/
def shaPlaysCard : Claim7 := { stood := { row := shaPlaysRow, standIns := [], harness := (true, "d8171a9538177aa33a6b3e648105f7f10c3aeb9156ae4465b375a14988d03f72"), looks := false }, kinds := [], alts := [], laidByText := true, laidKinds := [.data, .data], laidTests := true, laidLooks := .later }
def ShaPlaysCardSaid : Prop := Claim7.holds Tryd.pinned (.plain (OpenSpec.ofChange shaPlaysSpec)) shaPlaysCard

/-- THE TIED CARD OF 'waybilllaw03.ShaFolds'. -/
def shaFoldsCard : Claim7 := { stood := { row := shaFoldsRow, standIns := [], harness := (true, "d8171a9538177aa33a6b3e648105f7f10c3aeb9156ae4465b375a14988d03f72"), looks := false }, kinds := [], alts := [], laidByText := true, laidKinds := [.data, .data], laidTests := true, laidLooks := .later }
def ShaFoldsCardSaid : Prop := Claim7.holds Tryd.pinned (.plain (OpenSpec.ofChange shaFoldsSpec)) shaFoldsCard

/-- THE TIED CARD OF 'waybilllaw03.ShaCodes'. -/
def shaCodesCard : Claim7 := { stood := { row := shaCodesRow, standIns := [], harness := (true, "d8171a9538177aa33a6b3e648105f7f10c3aeb9156ae4465b375a14988d03f72"), looks := false }, kinds := [], alts := [], laidByText := true, laidKinds := [.data, .data], laidTests := true, laidLooks := .later }
def ShaCodesCardSaid : Prop := Claim7.holds Tryd.pinned (.plain (OpenSpec.ofChange shaCodesSpec)) shaCodesCard

/-- THE SECOND FORM's CARD OF 'waybilllaw03.ShaBlocks'. -/
def shaBlocksUptoCard : Claim7 := { stood := { row := shaBlocksUptoRow, standIns := [], harness := (true, "d8171a9538177aa33a6b3e648105f7f10c3aeb9156ae4465b375a14988d03f72"), looks := false }, kinds := [], alts := [], laidByText := true, laidKinds := [.data, .data], laidTests := true, laidLooks := .later }
def ShaBlocksUptoCardSaid : Prop := Claim7.holds Tryd.pinned (.plain (OpenSpec.upto shaBlocksSpec)) shaBlocksUptoCard

/-- THE SECOND FORM's CARD OF 'waybilllaw03.ShaSums'. -/
def shaSumsUptoCard : Claim7 := { stood := { row := shaSumsUptoRow, standIns := [], harness := (true, "d8171a9538177aa33a6b3e648105f7f10c3aeb9156ae4465b375a14988d03f72"), looks := false }, kinds := [], alts := [], laidByText := true, laidKinds := [.data, .data], laidTests := true, laidLooks := .later }
def ShaSumsUptoCardSaid : Prop := Claim7.holds Tryd.pinned (.plain (OpenSpec.upto shaSumsSpec)) shaSumsUptoCard

/-- THE SECOND FORM's CARD OF 'waybilllaw03.ShaHangs'. -/
def shaHangsUptoCard : Claim7 := { stood := { row := shaHangsUptoRow, standIns := [], harness := (true, "d8171a9538177aa33a6b3e648105f7f10c3aeb9156ae4465b375a14988d03f72"), looks := false }, kinds := [], alts := [], laidByText := true, laidKinds := [.data, .data], laidTests := true, laidLooks := .later }
def ShaHangsUptoCardSaid : Prop := Claim7.holds Tryd.pinned (.plain (OpenSpec.upto shaHangsSpec)) shaHangsUptoCard

/-- THE SECOND FORM's CARD OF 'waybilllaw03.ShaNil'. -/
def shaNilUptoCard : Claim7 := { stood := { row := shaNilUptoRow, standIns := [], harness := (true, "d8171a9538177aa33a6b3e648105f7f10c3aeb9156ae4465b375a14988d03f72"), looks := false }, kinds := [], alts := [], laidByText := true, laidKinds := [.data, .data], laidTests := true, laidLooks := .later }
def ShaNilUptoCardSaid : Prop := Claim7.holds Tryd.pinned (.plain (OpenSpec.upto shaNilSpec)) shaNilUptoCard

/-- THE SECOND FORM's CARD OF 'waybilllaw03.ShaPlays'. -/
def shaPlaysUptoCard : Claim7 := { stood := { row := shaPlaysUptoRow, standIns := [], harness := (true, "d8171a9538177aa33a6b3e648105f7f10c3aeb9156ae4465b375a14988d03f72"), looks := false }, kinds := [], alts := [], laidByText := true, laidKinds := [.data, .data], laidTests := true, laidLooks := .later }
def ShaPlaysUptoCardSaid : Prop := Claim7.holds Tryd.pinned (.plain (OpenSpec.upto shaPlaysSpec)) shaPlaysUptoCard

/-- THE SECOND FORM's CARD OF 'waybilllaw03.ShaFolds'. -/
def shaFoldsUptoCard : Claim7 := { stood := { row := shaFoldsUptoRow, standIns := [], harness := (true, "d8171a9538177aa33a6b3e648105f7f10c3aeb9156ae4465b375a14988d03f72"), looks := false }, kinds := [], alts := [], laidByText := true, laidKinds := [.data, .data], laidTests := true, laidLooks := .later }
def ShaFoldsUptoCardSaid : Prop := Claim7.holds Tryd.pinned (.plain (OpenSpec.upto shaFoldsSpec)) shaFoldsUptoCard

/-- THE SECOND FORM's CARD OF 'waybilllaw03.ShaCodes'. -/
def shaCodesUptoCard : Claim7 := { stood := { row := shaCodesUptoRow, standIns := [], harness := (true, "d8171a9538177aa33a6b3e648105f7f10c3aeb9156ae4465b375a14988d03f72"), looks := false }, kinds := [], alts := [], laidByText := true, laidKinds := [.data, .data], laidTests := true, laidLooks := .later }
def ShaCodesUptoCardSaid : Prop := Claim7.holds Tryd.pinned (.plain (OpenSpec.upto shaCodesSpec)) shaCodesUptoCard
end Rows
end Go.Proofs.YtgonajfngmeanaaDoor
