/-
  DERIVED. GIVEN WITH THE SEED: THE CARDS: each row of YtmfeghmggcpngaaDoorRows.lean that lists a variable, with what it lists TIED to the program's text (the seventh form; the later family's looks); each row that meets fmt, with fmt's text TOLD by the authors' own Lean function (tested against real Go, not proved from fmt's source: count such statements apart). THE CARD IS WHAT COUNTS. Prove the row's statement (the work); the ties are given (YtmfeghmggcpngaaDoorTie.lean); close each card by the builder's one call (the guide's Derived/Test/ToyasCard.lean, 'card_holds'). Laid BY PROGRAM, IN A SANDBOX (cutbox-door.mjs). By AI agents, Wed Nov 11 2026. No macro, syntax, notation, axiom, sorry.
-/
import Derived.Test.YtmfeghmggcpngaaDoorRows
import GoSem.ClaimSeven
namespace Go.Proofs.YtmfeghmggcpngaaDoor
namespace Rows

/-- THE TIED CARD OF 'waybilllaw10.BloomOf'. -/
def bloomOfCard : Claim7 := { stood := { row := bloomOfRow, standIns := [], harness := (true, "750ef035f3a7bdf765cc935fa98857c7ec4843d7fe7ac94ef504d5375632e978"), looks := false }, kinds := [], alts := [], laidByText := true, laidKinds := [.data, .data, .data], laidTests := true, laidLooks := .later }
def BloomOfCardSaid : Prop := Claim7.holds Tryd.pinned (.plain (OpenSpec.ofChange bloomOfSpec)) bloomOfCard

/-- THE TIED CARD OF 'waybilllaw10.BloomAdds'. -/
def bloomAddsCard : Claim7 := { stood := { row := bloomAddsRow, standIns := [], harness := (true, "750ef035f3a7bdf765cc935fa98857c7ec4843d7fe7ac94ef504d5375632e978"), looks := false }, kinds := [], alts := [], laidByText := true, laidKinds := [.data, .data, .data], laidTests := true, laidLooks := .later }
def BloomAddsCardSaid : Prop := Claim7.holds Tryd.pinned (.plain (OpenSpec.ofChange bloomAddsSpec)) bloomAddsCard

/-- THE TIED CARD OF 'waybilllaw10.BloomHolds'. -/
def bloomHoldsCard : Claim7 := { stood := { row := bloomHoldsRow, standIns := [], harness := (true, "750ef035f3a7bdf765cc935fa98857c7ec4843d7fe7ac94ef504d5375632e978"), looks := false }, kinds := [], alts := [], laidByText := true, laidKinds := [.data], laidTests := true, laidLooks := .later }
def BloomHoldsCardSaid : Prop := Claim7.holds Tryd.pinned (.plain (OpenSpec.ofChange bloomHoldsSpec)) bloomHoldsCard

/-- THE TIED CARD OF 'waybilllaw10.BloomJoins'. -/
def bloomJoinsCard : Claim7 := { stood := { row := bloomJoinsRow, standIns := [], harness := (true, "750ef035f3a7bdf765cc935fa98857c7ec4843d7fe7ac94ef504d5375632e978"), looks := false }, kinds := [], alts := [], laidByText := true, laidKinds := [.data], laidTests := true, laidLooks := .later }
def BloomJoinsCardSaid : Prop := Claim7.holds Tryd.pinned (.plain (OpenSpec.ofChange bloomJoinsSpec)) bloomJoinsCard

/-- THE TIED CARD OF 'waybilllaw10.BloomMany'. -/
def bloomManyCard : Claim7 := { stood := { row := bloomManyRow, standIns := [], harness := (true, "750ef035f3a7bdf765cc935fa98857c7ec4843d7fe7ac94ef504d5375632e978"), looks := false }, kinds := [], alts := [], goes := true, laidByText := true, laidKinds := [.data, .data, .data], laidTests := true, laidLooks := .later }
def BloomManyCardSaid : Prop := Claim7.holds Tryd.pinned (.plain (OpenSpec.ofChange bloomManySpec)) bloomManyCard

/-- THE SECOND FORM's CARD OF 'waybilllaw10.BloomOf'. -/
def bloomOfUptoCard : Claim7 := { stood := { row := bloomOfUptoRow, standIns := [], harness := (true, "750ef035f3a7bdf765cc935fa98857c7ec4843d7fe7ac94ef504d5375632e978"), looks := false }, kinds := [], alts := [], laidByText := true, laidKinds := [.data, .data, .data], laidTests := true, laidLooks := .later }
def BloomOfUptoCardSaid : Prop := Claim7.holds Tryd.pinned (.plain (OpenSpec.upto bloomOfSpec)) bloomOfUptoCard

/-- THE SECOND FORM's CARD OF 'waybilllaw10.BloomAdds'. -/
def bloomAddsUptoCard : Claim7 := { stood := { row := bloomAddsUptoRow, standIns := [], harness := (true, "750ef035f3a7bdf765cc935fa98857c7ec4843d7fe7ac94ef504d5375632e978"), looks := false }, kinds := [], alts := [], laidByText := true, laidKinds := [.data, .data, .data], laidTests := true, laidLooks := .later }
def BloomAddsUptoCardSaid : Prop := Claim7.holds Tryd.pinned (.plain (OpenSpec.upto bloomAddsSpec)) bloomAddsUptoCard

/-- THE SECOND FORM's CARD OF 'waybilllaw10.BloomHolds'. -/
def bloomHoldsUptoCard : Claim7 := { stood := { row := bloomHoldsUptoRow, standIns := [], harness := (true, "750ef035f3a7bdf765cc935fa98857c7ec4843d7fe7ac94ef504d5375632e978"), looks := false }, kinds := [], alts := [], laidByText := true, laidKinds := [.data], laidTests := true, laidLooks := .later }
def BloomHoldsUptoCardSaid : Prop := Claim7.holds Tryd.pinned (.plain (OpenSpec.upto bloomHoldsSpec)) bloomHoldsUptoCard

/-- THE SECOND FORM's CARD OF 'waybilllaw10.BloomJoins'. -/
def bloomJoinsUptoCard : Claim7 := { stood := { row := bloomJoinsUptoRow, standIns := [], harness := (true, "750ef035f3a7bdf765cc935fa98857c7ec4843d7fe7ac94ef504d5375632e978"), looks := false }, kinds := [], alts := [], laidByText := true, laidKinds := [.data], laidTests := true, laidLooks := .later }
def BloomJoinsUptoCardSaid : Prop := Claim7.holds Tryd.pinned (.plain (OpenSpec.upto bloomJoinsSpec)) bloomJoinsUptoCard

/-- THE SECOND FORM's CARD OF 'waybilllaw10.BloomMany'. -/
def bloomManyUptoCard : Claim7 := { stood := { row := bloomManyUptoRow, standIns := [], harness := (true, "750ef035f3a7bdf765cc935fa98857c7ec4843d7fe7ac94ef504d5375632e978"), looks := false }, kinds := [], alts := [], goes := true, laidByText := true, laidKinds := [.data, .data, .data], laidTests := true, laidLooks := .later }
def BloomManyUptoCardSaid : Prop := Claim7.holds Tryd.pinned (.plain (OpenSpec.upto bloomManySpec)) bloomManyUptoCard
end Rows
end Go.Proofs.YtmfeghmggcpngaaDoor
