/-
  DERIVED. GIVEN WITH THE SEED: THE PROGRAM's TIES (one call each: nine closed facts by the kernel) AND EACH ROW's TIE, after the 31st guide's Derived/Test/Toyas{Tie, Card}.lean. No idea stands in it: it is a product of the set-up. Laid BY PROGRAM, IN A SANDBOX (cutbox-door.mjs). By AI agents, Wed Nov 11 2026. No macro, syntax, notation, axiom, sorry.
-/
import Derived.Test.YtmfeghmggcpngaaDoorRows
import Derived.LaidByTextLater
import Derived.SevenTiedAt
import Derived.LaidSub
import Derived.LaidOnce
namespace Go.Proofs.YtmfeghmggcpngaaDoor
open Go
set_option maxRecDepth 100000
theorem seatTie1 : Tryd.prog.laidByTextLater [("waybill/keccak.first", Rows.laid_waybill_keccak_first), ("waybill/waybillref02.rounds", Rows.laid_waybill_waybillref02_rounds), ("waybill/waybillref02.turns", Rows.laid_waybill_waybillref02_turns)] [.data, .data, .data] true :=
  Program.laidByTextLater_by_one 24 8 26 (by kernel_rfl) (by kernel_rfl) (by kernel_rfl) (by kernel_rfl) (by kernel_rfl) (by kernel_rfl) (fun _ _ => by kernel_rfl)
theorem noOwnUnsafe : Tryd.pinned.checked.prog.headLifts.contains "ownunsafe" = false := by kernel_rfl
theorem tie : Tryd.prog.laidByTextLater [("waybill/keccak.first", Rows.laid_waybill_keccak_first), ("waybill/waybillref02.rounds", Rows.laid_waybill_waybillref02_rounds), ("waybill/waybillref02.turns", Rows.laid_waybill_waybillref02_turns)] [.data, .data, .data] true :=
  Program.laidByTextLater.sub seatTie1 ["waybill/keccak.first", "waybill/waybillref02.rounds", "waybill/waybillref02.turns"] (by kernel_rfl) (by kernel_rfl)
theorem bloomOf_row_tie : Rows.bloomOfRow.laidByTextAt .later Tryd.pinned [.data, .data, .data] true :=
  OpenClaim.laidByTextAt_later rfl rfl tie noOwnUnsafe
theorem bloomAdds_row_tie : Rows.bloomAddsRow.laidByTextAt .later Tryd.pinned [.data, .data, .data] true :=
  OpenClaim.laidByTextAt_later rfl rfl tie noOwnUnsafe
theorem bloomMany_row_tie : Rows.bloomManyRow.laidByTextAt .later Tryd.pinned [.data, .data, .data] true :=
  OpenClaim.laidByTextAt_later rfl rfl tie noOwnUnsafe
theorem tie2 : Tryd.prog.laidByTextLater [("waybill/keccak.first", Rows.laid_waybill_keccak_first)] [.data] true :=
  Program.laidByTextLater.sub seatTie1 ["waybill/keccak.first"] (by kernel_rfl) (by kernel_rfl)
theorem bloomHolds_row_tie : Rows.bloomHoldsRow.laidByTextAt .later Tryd.pinned [.data] true :=
  OpenClaim.laidByTextAt_later rfl rfl tie2 noOwnUnsafe
theorem bloomJoins_row_tie : Rows.bloomJoinsRow.laidByTextAt .later Tryd.pinned [.data] true :=
  OpenClaim.laidByTextAt_later rfl rfl tie2 noOwnUnsafe
theorem bloomOfUpto_row_tie : Rows.bloomOfUptoRow.laidByTextAt .later Tryd.pinned [.data, .data, .data] true :=
  OpenClaim.laidByTextAt_later rfl rfl tie noOwnUnsafe
theorem bloomAddsUpto_row_tie : Rows.bloomAddsUptoRow.laidByTextAt .later Tryd.pinned [.data, .data, .data] true :=
  OpenClaim.laidByTextAt_later rfl rfl tie noOwnUnsafe
theorem bloomHoldsUpto_row_tie : Rows.bloomHoldsUptoRow.laidByTextAt .later Tryd.pinned [.data] true :=
  OpenClaim.laidByTextAt_later rfl rfl tie2 noOwnUnsafe
theorem bloomJoinsUpto_row_tie : Rows.bloomJoinsUptoRow.laidByTextAt .later Tryd.pinned [.data] true :=
  OpenClaim.laidByTextAt_later rfl rfl tie2 noOwnUnsafe
theorem bloomManyUpto_row_tie : Rows.bloomManyUptoRow.laidByTextAt .later Tryd.pinned [.data, .data, .data] true :=
  OpenClaim.laidByTextAt_later rfl rfl tie noOwnUnsafe
end Go.Proofs.YtmfeghmggcpngaaDoor
