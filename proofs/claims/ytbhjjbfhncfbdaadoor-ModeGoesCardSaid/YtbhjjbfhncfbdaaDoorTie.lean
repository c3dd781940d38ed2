/-
  DERIVED. GIVEN WITH THE SEED: THE PROGRAM's TIES (one call each: nine closed facts by the kernel) AND EACH ROW's TIE, after the 31st guide's Derived/Test/Toyas{Tie, Card}.lean. No idea stands in it: it is a product of the set-up. Laid BY PROGRAM, IN A SANDBOX (cutbox-door.mjs). By AI agents, Wed Nov 11 2026. No macro, syntax, notation, axiom, sorry.
-/
import Derived.Test.YtbhjjbfhncfbdaaDoorRows
import Derived.LaidByTextLater
import Derived.SevenTiedAt
import Derived.LaidSub
import Derived.LaidOnce
namespace Go.Proofs.YtbhjjbfhncfbdaaDoor
open Go
set_option maxRecDepth 100000
theorem seatTie1 : Tryd.prog.laidByTextLater [("errors.errorType", Rows.laid_errors_errorType), ("bargelock/api.ErrText", Rows.laid_bargelock_api_ErrText), ("bargelock/api.ErrBound", Rows.laid_bargelock_api_ErrBound), ("bargelock/api.ErrShape", Rows.laid_bargelock_api_ErrShape), ("bargelock/api.ErrNode", Rows.laid_bargelock_api_ErrNode), ("bargelock/api.ErrNone", Rows.laid_bargelock_api_ErrNone), ("bargelock/api.ErrExist", Rows.laid_bargelock_api_ErrExist), ("bargelock/api.ErrFull", Rows.laid_bargelock_api_ErrFull), ("bargelock/api.ErrSum", Rows.laid_bargelock_api_ErrSum), ("bargelock/api.ErrLate", Rows.laid_bargelock_api_ErrLate), ("bargelock/api.ErrGap", Rows.laid_bargelock_api_ErrGap), ("bargelock/api.ErrOff", Rows.laid_bargelock_api_ErrOff)] [.handle, .sentinel, .sentinel, .sentinel, .sentinel, .sentinel, .sentinel, .sentinel, .sentinel, .sentinel, .sentinel, .sentinel] true :=
  Program.laidByTextLater_by_one 225 8 2 (by kernel_rfl) (by kernel_rfl) (by kernel_rfl) (by kernel_rfl) (by kernel_rfl) (by kernel_rfl) (fun _ _ => by kernel_rfl)
theorem noOwnUnsafe : Tryd.pinned.checked.prog.headLifts.contains "ownunsafe" = false := by kernel_rfl
theorem tie : Tryd.prog.laidByTextLater [("bargelock/api.ErrBound", Rows.laid_bargelock_api_ErrBound), ("bargelock/api.ErrShape", Rows.laid_bargelock_api_ErrShape), ("bargelock/api.ErrNode", Rows.laid_bargelock_api_ErrNode), ("bargelock/api.ErrFull", Rows.laid_bargelock_api_ErrFull), ("bargelock/api.ErrGap", Rows.laid_bargelock_api_ErrGap)] [.sentinel, .sentinel, .sentinel, .sentinel, .sentinel] true :=
  Program.laidByTextLater.sub seatTie1 ["bargelock/api.ErrBound", "bargelock/api.ErrShape", "bargelock/api.ErrNode", "bargelock/api.ErrFull", "bargelock/api.ErrGap"] (by kernel_rfl) (by kernel_rfl)
theorem cliqueOne_row_tie : Rows.cliqueOneRow.laidByTextAt .later Tryd.pinned [.sentinel, .sentinel, .sentinel, .sentinel, .sentinel] true :=
  OpenClaim.laidByTextAt_later rfl rfl tie noOwnUnsafe
theorem deltaWhole_row_tie : Rows.deltaWholeRow.laidByTextAt .later Tryd.pinned [.sentinel, .sentinel, .sentinel, .sentinel, .sentinel] true :=
  OpenClaim.laidByTextAt_later rfl rfl tie noOwnUnsafe
theorem tie2 : Tryd.prog.laidByTextLater [("bargelock/api.ErrBound", Rows.laid_bargelock_api_ErrBound), ("bargelock/api.ErrNode", Rows.laid_bargelock_api_ErrNode), ("bargelock/api.ErrNone", Rows.laid_bargelock_api_ErrNone), ("bargelock/api.ErrFull", Rows.laid_bargelock_api_ErrFull)] [.sentinel, .sentinel, .sentinel, .sentinel] true :=
  Program.laidByTextLater.sub seatTie1 ["bargelock/api.ErrBound", "bargelock/api.ErrNode", "bargelock/api.ErrNone", "bargelock/api.ErrFull"] (by kernel_rfl) (by kernel_rfl)
theorem planWaits_row_tie : Rows.planWaitsRow.laidByTextAt .later Tryd.pinned [.sentinel, .sentinel, .sentinel, .sentinel] true :=
  OpenClaim.laidByTextAt_later rfl rfl tie2 noOwnUnsafe
theorem tie3 : Tryd.prog.laidByTextLater [("bargelock/api.ErrBound", Rows.laid_bargelock_api_ErrBound), ("bargelock/api.ErrNode", Rows.laid_bargelock_api_ErrNode), ("bargelock/api.ErrNone", Rows.laid_bargelock_api_ErrNone), ("bargelock/api.ErrFull", Rows.laid_bargelock_api_ErrFull), ("bargelock/api.ErrLate", Rows.laid_bargelock_api_ErrLate)] [.sentinel, .sentinel, .sentinel, .sentinel, .sentinel] true :=
  Program.laidByTextLater.sub seatTie1 ["bargelock/api.ErrBound", "bargelock/api.ErrNode", "bargelock/api.ErrNone", "bargelock/api.ErrFull", "bargelock/api.ErrLate"] (by kernel_rfl) (by kernel_rfl)
theorem busOne_row_tie : Rows.busOneRow.laidByTextAt .later Tryd.pinned [.sentinel, .sentinel, .sentinel, .sentinel, .sentinel] true :=
  OpenClaim.laidByTextAt_later rfl rfl tie3 noOwnUnsafe
theorem tie4 : Tryd.prog.laidByTextLater [("errors.errorType", Rows.laid_errors_errorType), ("bargelock/api.ErrText", Rows.laid_bargelock_api_ErrText), ("bargelock/api.ErrBound", Rows.laid_bargelock_api_ErrBound), ("bargelock/api.ErrShape", Rows.laid_bargelock_api_ErrShape), ("bargelock/api.ErrNode", Rows.laid_bargelock_api_ErrNode), ("bargelock/api.ErrNone", Rows.laid_bargelock_api_ErrNone), ("bargelock/api.ErrExist", Rows.laid_bargelock_api_ErrExist), ("bargelock/api.ErrFull", Rows.laid_bargelock_api_ErrFull), ("bargelock/api.ErrSum", Rows.laid_bargelock_api_ErrSum), ("bargelock/api.ErrLate", Rows.laid_bargelock_api_ErrLate), ("bargelock/api.ErrGap", Rows.laid_bargelock_api_ErrGap), ("bargelock/api.ErrOff", Rows.laid_bargelock_api_ErrOff)] [.handle, .sentinel, .sentinel, .sentinel, .sentinel, .sentinel, .sentinel, .sentinel, .sentinel, .sentinel, .sentinel, .sentinel] true :=
  Program.laidByTextLater.sub seatTie1 ["errors.errorType", "bargelock/api.ErrText", "bargelock/api.ErrBound", "bargelock/api.ErrShape", "bargelock/api.ErrNode", "bargelock/api.ErrNone", "bargelock/api.ErrExist", "bargelock/api.ErrFull", "bargelock/api.ErrSum", "bargelock/api.ErrLate", "bargelock/api.ErrGap", "bargelock/api.ErrOff"] (by kernel_rfl) (by kernel_rfl)
theorem modeGoes_row_tie : Rows.modeGoesRow.laidByTextAt .later Tryd.pinned [.handle, .sentinel, .sentinel, .sentinel, .sentinel, .sentinel, .sentinel, .sentinel, .sentinel, .sentinel, .sentinel, .sentinel] true :=
  OpenClaim.laidByTextAt_later rfl rfl tie4 noOwnUnsafe
theorem guardOne_row_tie : Rows.guardOneRow.laidByTextAt .later Tryd.pinned [.handle, .sentinel, .sentinel, .sentinel, .sentinel, .sentinel, .sentinel, .sentinel, .sentinel, .sentinel, .sentinel, .sentinel] true :=
  OpenClaim.laidByTextAt_later rfl rfl tie4 noOwnUnsafe
theorem cliqueOneUpto_row_tie : Rows.cliqueOneUptoRow.laidByTextAt .later Tryd.pinned [.sentinel, .sentinel, .sentinel, .sentinel, .sentinel] true :=
  OpenClaim.laidByTextAt_later rfl rfl tie noOwnUnsafe
theorem planWaitsUpto_row_tie : Rows.planWaitsUptoRow.laidByTextAt .later Tryd.pinned [.sentinel, .sentinel, .sentinel, .sentinel] true :=
  OpenClaim.laidByTextAt_later rfl rfl tie2 noOwnUnsafe
theorem deltaWholeUpto_row_tie : Rows.deltaWholeUptoRow.laidByTextAt .later Tryd.pinned [.sentinel, .sentinel, .sentinel, .sentinel, .sentinel] true :=
  OpenClaim.laidByTextAt_later rfl rfl tie noOwnUnsafe
theorem busOneUpto_row_tie : Rows.busOneUptoRow.laidByTextAt .later Tryd.pinned [.sentinel, .sentinel, .sentinel, .sentinel, .sentinel] true :=
  OpenClaim.laidByTextAt_later rfl rfl tie3 noOwnUnsafe
theorem modeGoesUpto_row_tie : Rows.modeGoesUptoRow.laidByTextAt .later Tryd.pinned [.handle, .sentinel, .sentinel, .sentinel, .sentinel, .sentinel, .sentinel, .sentinel, .sentinel, .sentinel, .sentinel, .sentinel] true :=
  OpenClaim.laidByTextAt_later rfl rfl tie4 noOwnUnsafe
theorem guardOneUpto_row_tie : Rows.guardOneUptoRow.laidByTextAt .later Tryd.pinned [.handle, .sentinel, .sentinel, .sentinel, .sentinel, .sentinel, .sentinel, .sentinel, .sentinel, .sentinel, .sentinel, .sentinel] true :=
  OpenClaim.laidByTextAt_later rfl rfl tie4 noOwnUnsafe
end Go.Proofs.YtbhjjbfhncfbdaaDoor
