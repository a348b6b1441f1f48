/-
  DERIVED. GIVEN WITH THE SEED: THE PROGRAM's TIES (one call each: nine closed facts by the kernel) AND EACH ROW's TIE, after the 31st guide's Derived/Test/Toyas{Tie, Card}.lean. No idea stands in it: it is a product of the set-up. Laid BY PROGRAM, IN A SANDBOX (cutbox-door.mjs). By AI agents, Wed Nov 11 2026. No macro, syntax, notation, axiom, sorry.
-/
import Derived.Test.YtdmnfcjekomaiaaDoorRows
import Derived.LaidByTextLater
import Derived.SevenTiedAt
import Derived.LaidSub
import Derived.LaidOnce
namespace Go.Proofs.YtdmnfcjekomaiaaDoor
open Go
set_option maxRecDepth 100000
theorem seatTie1 : Tryd.prog.laidByTextLater [("waybill/keccak.first", Rows.laid_waybill_keccak_first), ("waybill/sha.constants", Rows.laid_waybill_sha_constants), ("waybill/sha.start", Rows.laid_waybill_sha_start), ("waybill/header.fields", Rows.laid_waybill_header_fields), ("waybill/waybillref02.rounds", Rows.laid_waybill_waybillref02_rounds), ("waybill/waybillref02.turns", Rows.laid_waybill_waybillref02_turns)] [.data, .data, .data, .data, .data, .data] true :=
  Program.laidByTextLater_by_one 39 8 65 (by kernel_rfl) (by kernel_rfl) (by kernel_rfl) (by kernel_rfl) (by kernel_rfl) (by kernel_rfl) (fun _ _ => by kernel_rfl)
theorem noOwnUnsafe : Tryd.pinned.checked.prog.headLifts.contains "ownunsafe" = false := by kernel_rfl
theorem tie : Tryd.prog.laidByTextLater [("waybill/header.fields", Rows.laid_waybill_header_fields)] [.data] true :=
  Program.laidByTextLater.sub seatTie1 ["waybill/header.fields"] (by kernel_rfl) (by kernel_rfl)
theorem headerReads_row_tie : Rows.headerReadsRow.laidByTextAt .later Tryd.pinned [.data] true :=
  OpenClaim.laidByTextAt_later rfl rfl tie noOwnUnsafe
theorem tie2 : Tryd.prog.laidByTextLater [("waybill/keccak.first", Rows.laid_waybill_keccak_first), ("waybill/waybillref02.rounds", Rows.laid_waybill_waybillref02_rounds), ("waybill/waybillref02.turns", Rows.laid_waybill_waybillref02_turns)] [.data, .data, .data] true :=
  Program.laidByTextLater.sub seatTie1 ["waybill/keccak.first", "waybill/waybillref02.rounds", "waybill/waybillref02.turns"] (by kernel_rfl) (by kernel_rfl)
theorem headerPacks_row_tie : Rows.headerPacksRow.laidByTextAt .later Tryd.pinned [.data, .data, .data] true :=
  OpenClaim.laidByTextAt_later rfl rfl tie2 noOwnUnsafe
theorem tie3 : Tryd.prog.laidByTextLater [("waybill/keccak.first", Rows.laid_waybill_keccak_first), ("waybill/header.fields", Rows.laid_waybill_header_fields)] [.data, .data] true :=
  Program.laidByTextLater.sub seatTie1 ["waybill/keccak.first", "waybill/header.fields"] (by kernel_rfl) (by kernel_rfl)
theorem headerBack_row_tie : Rows.headerBackRow.laidByTextAt .later Tryd.pinned [.data, .data] true :=
  OpenClaim.laidByTextAt_later rfl rfl tie3 noOwnUnsafe
theorem tie4 : Tryd.prog.laidByTextLater [("waybill/keccak.first", Rows.laid_waybill_keccak_first), ("waybill/sha.constants", Rows.laid_waybill_sha_constants), ("waybill/sha.start", Rows.laid_waybill_sha_start)] [.data, .data, .data] true :=
  Program.laidByTextLater.sub seatTie1 ["waybill/keccak.first", "waybill/sha.constants", "waybill/sha.start"] (by kernel_rfl) (by kernel_rfl)
theorem headerLimits_row_tie : Rows.headerLimitsRow.laidByTextAt .later Tryd.pinned [.data, .data, .data] true :=
  OpenClaim.laidByTextAt_later rfl rfl tie4 noOwnUnsafe
theorem headerGrows_row_tie : Rows.headerGrowsRow.laidByTextAt .later Tryd.pinned [.data, .data, .data] true :=
  OpenClaim.laidByTextAt_later rfl rfl tie4 noOwnUnsafe
theorem tie5 : Tryd.prog.laidByTextLater [("waybill/keccak.first", Rows.laid_waybill_keccak_first), ("waybill/sha.constants", Rows.laid_waybill_sha_constants), ("waybill/sha.start", Rows.laid_waybill_sha_start), ("waybill/header.fields", Rows.laid_waybill_header_fields)] [.data, .data, .data, .data] true :=
  Program.laidByTextLater.sub seatTie1 ["waybill/keccak.first", "waybill/sha.constants", "waybill/sha.start", "waybill/header.fields"] (by kernel_rfl) (by kernel_rfl)
theorem headerFields_row_tie : Rows.headerFieldsRow.laidByTextAt .later Tryd.pinned [.data, .data, .data, .data] true :=
  OpenClaim.laidByTextAt_later rfl rfl tie5 noOwnUnsafe
theorem headerReadsUpto_row_tie : Rows.headerReadsUptoRow.laidByTextAt .later Tryd.pinned [.data] true :=
  OpenClaim.laidByTextAt_later rfl rfl tie noOwnUnsafe
theorem headerPacksUpto_row_tie : Rows.headerPacksUptoRow.laidByTextAt .later Tryd.pinned [.data, .data, .data] true :=
  OpenClaim.laidByTextAt_later rfl rfl tie2 noOwnUnsafe
theorem headerBackUpto_row_tie : Rows.headerBackUptoRow.laidByTextAt .later Tryd.pinned [.data, .data] true :=
  OpenClaim.laidByTextAt_later rfl rfl tie3 noOwnUnsafe
theorem headerLimitsUpto_row_tie : Rows.headerLimitsUptoRow.laidByTextAt .later Tryd.pinned [.data, .data, .data] true :=
  OpenClaim.laidByTextAt_later rfl rfl tie4 noOwnUnsafe
theorem headerGrowsUpto_row_tie : Rows.headerGrowsUptoRow.laidByTextAt .later Tryd.pinned [.data, .data, .data] true :=
  OpenClaim.laidByTextAt_later rfl rfl tie4 noOwnUnsafe
theorem headerFieldsUpto_row_tie : Rows.headerFieldsUptoRow.laidByTextAt .later Tryd.pinned [.data, .data, .data, .data] true :=
  OpenClaim.laidByTextAt_later rfl rfl tie5 noOwnUnsafe
end Go.Proofs.YtdmnfcjekomaiaaDoor
