/-
  DERIVED. GIVEN WITH THE SEED: THE PROGRAM's TIES (one call each: nine closed facts by the kernel) AND EACH ROW's TIE, after the 31st guide's Derived/Test/Toyas{Tie, Card}.lean. No idea stands in it: it is a product of the set-up. Laid BY PROGRAM, IN A SANDBOX (cutbox-door.mjs). By AI agents, Wed Nov 11 2026. No macro, syntax, notation, axiom, sorry.
-/
import Derived.Test.YtpkcehpoohmbfaaDoorRows
import Derived.LaidByTextLater
import Derived.SevenTiedAt
import Derived.LaidSub
import Derived.LaidOnce
namespace Go.Proofs.YtpkcehpoohmbfaaDoor
open Go
set_option maxRecDepth 100000
theorem seatTie1 : Tryd.prog.laidByTextLater [("waybill/keccak.first", Rows.laid_waybill_keccak_first), ("waybill/field.moduli", Rows.laid_waybill_field_moduli), ("waybill/curve.base", Rows.laid_waybill_curve_base), ("waybill/waybillref02.rounds", Rows.laid_waybill_waybillref02_rounds), ("waybill/waybillref02.turns", Rows.laid_waybill_waybillref02_turns)] [.data, .data, .data, .data, .data] true :=
  Program.laidByTextLater_by_one 40 8 26 (by kernel_rfl) (by kernel_rfl) (by kernel_rfl) (by kernel_rfl) (by kernel_rfl) (by kernel_rfl) (fun _ _ => by kernel_rfl)
theorem noOwnUnsafe : Tryd.pinned.checked.prog.headLifts.contains "ownunsafe" = false := by kernel_rfl
theorem tie : Tryd.prog.laidByTextLater [("waybill/keccak.first", Rows.laid_waybill_keccak_first), ("waybill/waybillref02.rounds", Rows.laid_waybill_waybillref02_rounds), ("waybill/waybillref02.turns", Rows.laid_waybill_waybillref02_turns)] [.data, .data, .data] true :=
  Program.laidByTextLater.sub seatTie1 ["waybill/keccak.first", "waybill/waybillref02.rounds", "waybill/waybillref02.turns"] (by kernel_rfl) (by kernel_rfl)
theorem addressCreates_row_tie : Rows.addressCreatesRow.laidByTextAt .later Tryd.pinned [.data, .data, .data] true :=
  OpenClaim.laidByTextAt_later rfl rfl tie noOwnUnsafe
theorem addressRows_row_tie : Rows.addressRowsRow.laidByTextAt .later Tryd.pinned [.data, .data, .data] true :=
  OpenClaim.laidByTextAt_later rfl rfl tie noOwnUnsafe
theorem addressRow_row_tie : Rows.addressRowRow.laidByTextAt .later Tryd.pinned [.data, .data, .data] true :=
  OpenClaim.laidByTextAt_later rfl rfl tie noOwnUnsafe
theorem tie2 : Tryd.prog.laidByTextLater [("waybill/keccak.first", Rows.laid_waybill_keccak_first), ("waybill/field.moduli", Rows.laid_waybill_field_moduli), ("waybill/waybillref02.rounds", Rows.laid_waybill_waybillref02_rounds), ("waybill/waybillref02.turns", Rows.laid_waybill_waybillref02_turns)] [.data, .data, .data, .data] true :=
  Program.laidByTextLater.sub seatTie1 ["waybill/keccak.first", "waybill/field.moduli", "waybill/waybillref02.rounds", "waybill/waybillref02.turns"] (by kernel_rfl) (by kernel_rfl)
theorem addressPoints_row_tie : Rows.addressPointsRow.laidByTextAt .later Tryd.pinned [.data, .data, .data, .data] true :=
  OpenClaim.laidByTextAt_later rfl rfl tie2 noOwnUnsafe
theorem tie3 : Tryd.prog.laidByTextLater [("waybill/keccak.first", Rows.laid_waybill_keccak_first), ("waybill/field.moduli", Rows.laid_waybill_field_moduli), ("waybill/curve.base", Rows.laid_waybill_curve_base)] [.data, .data, .data] true :=
  Program.laidByTextLater.sub seatTie1 ["waybill/keccak.first", "waybill/field.moduli", "waybill/curve.base"] (by kernel_rfl) (by kernel_rfl)
theorem addressMade_row_tie : Rows.addressMadeRow.laidByTextAt .later Tryd.pinned [.data, .data, .data] true :=
  OpenClaim.laidByTextAt_later rfl rfl tie3 noOwnUnsafe
theorem addressCreatesUpto_row_tie : Rows.addressCreatesUptoRow.laidByTextAt .later Tryd.pinned [.data, .data, .data] true :=
  OpenClaim.laidByTextAt_later rfl rfl tie noOwnUnsafe
theorem addressPointsUpto_row_tie : Rows.addressPointsUptoRow.laidByTextAt .later Tryd.pinned [.data, .data, .data, .data] true :=
  OpenClaim.laidByTextAt_later rfl rfl tie2 noOwnUnsafe
theorem addressRowsUpto_row_tie : Rows.addressRowsUptoRow.laidByTextAt .later Tryd.pinned [.data, .data, .data] true :=
  OpenClaim.laidByTextAt_later rfl rfl tie noOwnUnsafe
theorem addressRowUpto_row_tie : Rows.addressRowUptoRow.laidByTextAt .later Tryd.pinned [.data, .data, .data] true :=
  OpenClaim.laidByTextAt_later rfl rfl tie noOwnUnsafe
theorem addressMadeUpto_row_tie : Rows.addressMadeUptoRow.laidByTextAt .later Tryd.pinned [.data, .data, .data] true :=
  OpenClaim.laidByTextAt_later rfl rfl tie3 noOwnUnsafe
end Go.Proofs.YtpkcehpoohmbfaaDoor
