/-
  DERIVED. GIVEN WITH THE SEED: THE PROGRAM's TIES (one call each: nine closed facts by the kernel) AND EACH ROW's TIE, after the 31st guide's Derived/Test/Toyas{Tie, Card}.lean. No idea stands in it: it is a product of the set-up. Laid BY PROGRAM, IN A SANDBOX (cutbox-door.mjs). By AI agents, Wed Nov 11 2026. No macro, syntax, notation, axiom, sorry.
-/
import Derived.Test.YtojnakdlnlcmiaaDoorRows
import Derived.LaidByTextLater
import Derived.SevenTiedAt
import Derived.LaidSub
import Derived.LaidOnce
namespace Go.Proofs.YtojnakdlnlcmiaaDoor
open Go
set_option maxRecDepth 100000
theorem seatTie1 : Tryd.prog.laidByTextLater [("waybill/keccak.first", Rows.laid_waybill_keccak_first), ("waybill/waybillplay.markHash", Rows.laid_waybill_waybillplay_markHash), ("waybill/waybillplay.markAddress", Rows.laid_waybill_waybillplay_markAddress), ("waybill/waybillref02.rounds", Rows.laid_waybill_waybillref02_rounds), ("waybill/waybillref02.turns", Rows.laid_waybill_waybillref02_turns)] [.data, .data, .data, .data, .data] true :=
  Program.laidByTextLater_by_one 34 8 33 (by kernel_rfl) (by kernel_rfl) (by kernel_rfl) (by kernel_rfl) (by kernel_rfl) (by kernel_rfl) (fun _ _ => by kernel_rfl)
theorem noOwnUnsafe : Tryd.pinned.checked.prog.headLifts.contains "ownunsafe" = false := by kernel_rfl
theorem tie : Tryd.prog.laidByTextLater [("waybill/waybillplay.markHash", Rows.laid_waybill_waybillplay_markHash), ("waybill/waybillplay.markAddress", Rows.laid_waybill_waybillplay_markAddress)] [.data, .data] true :=
  Program.laidByTextLater.sub seatTie1 ["waybill/waybillplay.markHash", "waybill/waybillplay.markAddress"] (by kernel_rfl) (by kernel_rfl)
theorem receiptGas_row_tie : Rows.receiptGasRow.laidByTextAt .later Tryd.pinned [.data, .data] true :=
  OpenClaim.laidByTextAt_later rfl rfl tie noOwnUnsafe
theorem receiptFinds_row_tie : Rows.receiptFindsRow.laidByTextAt .later Tryd.pinned [.data, .data] true :=
  OpenClaim.laidByTextAt_later rfl rfl tie noOwnUnsafe
theorem tie2 : Tryd.prog.laidByTextLater [("waybill/keccak.first", Rows.laid_waybill_keccak_first), ("waybill/waybillref02.rounds", Rows.laid_waybill_waybillref02_rounds), ("waybill/waybillref02.turns", Rows.laid_waybill_waybillref02_turns)] [.data, .data, .data] true :=
  Program.laidByTextLater.sub seatTie1 ["waybill/keccak.first", "waybill/waybillref02.rounds", "waybill/waybillref02.turns"] (by kernel_rfl) (by kernel_rfl)
theorem receiptMakes_row_tie : Rows.receiptMakesRow.laidByTextAt .later Tryd.pinned [.data, .data, .data] true :=
  OpenClaim.laidByTextAt_later rfl rfl tie2 noOwnUnsafe
theorem receiptWrites_row_tie : Rows.receiptWritesRow.laidByTextAt .later Tryd.pinned [.data, .data, .data] true :=
  OpenClaim.laidByTextAt_later rfl rfl tie2 noOwnUnsafe
theorem receiptReads_row_tie : Rows.receiptReadsRow.laidByTextAt .later Tryd.pinned [.data, .data, .data] true :=
  OpenClaim.laidByTextAt_later rfl rfl tie2 noOwnUnsafe
theorem tie3 : Tryd.prog.laidByTextLater [("waybill/keccak.first", Rows.laid_waybill_keccak_first)] [.data] true :=
  Program.laidByTextLater.sub seatTie1 ["waybill/keccak.first"] (by kernel_rfl) (by kernel_rfl)
theorem receiptBlooms_row_tie : Rows.receiptBloomsRow.laidByTextAt .later Tryd.pinned [.data] true :=
  OpenClaim.laidByTextAt_later rfl rfl tie3 noOwnUnsafe
theorem receiptBack_row_tie : Rows.receiptBackRow.laidByTextAt .later Tryd.pinned [.data] true :=
  OpenClaim.laidByTextAt_later rfl rfl tie3 noOwnUnsafe
theorem receiptOne_row_tie : Rows.receiptOneRow.laidByTextAt .later Tryd.pinned [.data] true :=
  OpenClaim.laidByTextAt_later rfl rfl tie3 noOwnUnsafe
theorem receiptSpoilt_row_tie : Rows.receiptSpoiltRow.laidByTextAt .later Tryd.pinned [.data] true :=
  OpenClaim.laidByTextAt_later rfl rfl tie3 noOwnUnsafe
theorem receiptGasUpto_row_tie : Rows.receiptGasUptoRow.laidByTextAt .later Tryd.pinned [.data, .data] true :=
  OpenClaim.laidByTextAt_later rfl rfl tie noOwnUnsafe
theorem receiptFindsUpto_row_tie : Rows.receiptFindsUptoRow.laidByTextAt .later Tryd.pinned [.data, .data] true :=
  OpenClaim.laidByTextAt_later rfl rfl tie noOwnUnsafe
theorem receiptMakesUpto_row_tie : Rows.receiptMakesUptoRow.laidByTextAt .later Tryd.pinned [.data, .data, .data] true :=
  OpenClaim.laidByTextAt_later rfl rfl tie2 noOwnUnsafe
theorem receiptBloomsUpto_row_tie : Rows.receiptBloomsUptoRow.laidByTextAt .later Tryd.pinned [.data] true :=
  OpenClaim.laidByTextAt_later rfl rfl tie3 noOwnUnsafe
theorem receiptWritesUpto_row_tie : Rows.receiptWritesUptoRow.laidByTextAt .later Tryd.pinned [.data, .data, .data] true :=
  OpenClaim.laidByTextAt_later rfl rfl tie2 noOwnUnsafe
theorem receiptReadsUpto_row_tie : Rows.receiptReadsUptoRow.laidByTextAt .later Tryd.pinned [.data, .data, .data] true :=
  OpenClaim.laidByTextAt_later rfl rfl tie2 noOwnUnsafe
theorem receiptBackUpto_row_tie : Rows.receiptBackUptoRow.laidByTextAt .later Tryd.pinned [.data] true :=
  OpenClaim.laidByTextAt_later rfl rfl tie3 noOwnUnsafe
theorem receiptOneUpto_row_tie : Rows.receiptOneUptoRow.laidByTextAt .later Tryd.pinned [.data] true :=
  OpenClaim.laidByTextAt_later rfl rfl tie3 noOwnUnsafe
theorem receiptSpoiltUpto_row_tie : Rows.receiptSpoiltUptoRow.laidByTextAt .later Tryd.pinned [.data] true :=
  OpenClaim.laidByTextAt_later rfl rfl tie3 noOwnUnsafe
end Go.Proofs.YtojnakdlnlcmiaaDoor
