/-
  DERIVED. GIVEN WITH THE SEED: THE PROGRAM's TIES (one call each: nine closed facts by the kernel) AND EACH ROW's TIE, after the 31st guide's Derived/Test/Toyas{Tie, Card}.lean. No idea stands in it: it is a product of the set-up. Laid BY PROGRAM, IN A SANDBOX (cutbox-door.mjs). By AI agents, Wed Nov 11 2026. No macro, syntax, notation, axiom, sorry.
-/
import Derived.Test.YtkghgjehjchajaaDoorRows
import Derived.LaidByTextLater
import Derived.SevenTiedAt
import Derived.LaidSub
import Derived.LaidOnce
namespace Go.Proofs.YtkghgjehjchajaaDoor
open Go
set_option maxRecDepth 100000
theorem seatTie1 : Tryd.prog.laidByTextLater [("errors.errorType", Rows.laid_errors_errorType), ("loop.example/s02533/impl.recordMagic", Rows.laid_loop_example_s02533_impl_recordMagic), ("loop.example/s02533/impl.snapMagic", Rows.laid_loop_example_s02533_impl_snapMagic)] [.handle, .widerDeep, .widerDeep] true :=
  Program.laidByTextLater_by_one 26 8 9 (by kernel_rfl) (by kernel_rfl) (by kernel_rfl) (by kernel_rfl) (by kernel_rfl) (by kernel_rfl) (fun _ _ => by kernel_rfl)
theorem noOwnUnsafe : Tryd.pinned.checked.prog.headLifts.contains "ownunsafe" = false := by kernel_rfl
theorem tie : Tryd.prog.laidByTextLater [("loop.example/s02533/impl.snapMagic", Rows.laid_loop_example_s02533_impl_snapMagic)] [.widerDeep] true :=
  Program.laidByTextLater.sub seatTie1 ["loop.example/s02533/impl.snapMagic"] (by kernel_rfl) (by kernel_rfl)
theorem fnExactEncodeSnap_row_tie : Rows.fnExactEncodeSnapRow.laidByTextAt .later Tryd.pinned [.widerDeep] true :=
  OpenClaim.laidByTextAt_later rfl rfl tie noOwnUnsafe
theorem fnExactDecodeSnap_row_tie : Rows.fnExactDecodeSnapRow.laidByTextAt .later Tryd.pinned [.widerDeep] true :=
  OpenClaim.laidByTextAt_later rfl rfl tie noOwnUnsafe
theorem tie2 : Tryd.prog.laidByTextLater [("loop.example/s02533/impl.recordMagic", Rows.laid_loop_example_s02533_impl_recordMagic)] [.widerDeep] true :=
  Program.laidByTextLater.sub seatTie1 ["loop.example/s02533/impl.recordMagic"] (by kernel_rfl) (by kernel_rfl)
theorem fnExactEncodeFsinfo_row_tie : Rows.fnExactEncodeFsinfoRow.laidByTextAt .later Tryd.pinned [.widerDeep] true :=
  OpenClaim.laidByTextAt_later rfl rfl tie2 noOwnUnsafe
theorem fnExactDecodeFsinfo_row_tie : Rows.fnExactDecodeFsinfoRow.laidByTextAt .later Tryd.pinned [.widerDeep] true :=
  OpenClaim.laidByTextAt_later rfl rfl tie2 noOwnUnsafe
theorem fnExactCpSteps_row_tie : Rows.fnExactCpStepsRow.laidByTextAt .later Tryd.pinned [.widerDeep] true :=
  OpenClaim.laidByTextAt_later rfl rfl tie2 noOwnUnsafe
theorem tie3 : Tryd.prog.laidByTextLater [("errors.errorType", Rows.laid_errors_errorType), ("loop.example/s02533/impl.recordMagic", Rows.laid_loop_example_s02533_impl_recordMagic)] [.handle, .widerDeep] true :=
  Program.laidByTextLater.sub seatTie1 ["errors.errorType", "loop.example/s02533/impl.recordMagic"] (by kernel_rfl) (by kernel_rfl)
theorem fnExactChooseFsinfo_row_tie : Rows.fnExactChooseFsinfoRow.laidByTextAt .later Tryd.pinned [.handle, .widerDeep] true :=
  OpenClaim.laidByTextAt_later rfl rfl tie3 noOwnUnsafe
theorem fnExactEncodeSnapUpto_row_tie : Rows.fnExactEncodeSnapUptoRow.laidByTextAt .later Tryd.pinned [.widerDeep] true :=
  OpenClaim.laidByTextAt_later rfl rfl tie noOwnUnsafe
theorem fnExactDecodeSnapUpto_row_tie : Rows.fnExactDecodeSnapUptoRow.laidByTextAt .later Tryd.pinned [.widerDeep] true :=
  OpenClaim.laidByTextAt_later rfl rfl tie noOwnUnsafe
theorem fnExactEncodeFsinfoUpto_row_tie : Rows.fnExactEncodeFsinfoUptoRow.laidByTextAt .later Tryd.pinned [.widerDeep] true :=
  OpenClaim.laidByTextAt_later rfl rfl tie2 noOwnUnsafe
theorem fnExactDecodeFsinfoUpto_row_tie : Rows.fnExactDecodeFsinfoUptoRow.laidByTextAt .later Tryd.pinned [.widerDeep] true :=
  OpenClaim.laidByTextAt_later rfl rfl tie2 noOwnUnsafe
theorem fnExactCpStepsUpto_row_tie : Rows.fnExactCpStepsUptoRow.laidByTextAt .later Tryd.pinned [.widerDeep] true :=
  OpenClaim.laidByTextAt_later rfl rfl tie2 noOwnUnsafe
theorem fnExactChooseFsinfoUpto_row_tie : Rows.fnExactChooseFsinfoUptoRow.laidByTextAt .later Tryd.pinned [.handle, .widerDeep] true :=
  OpenClaim.laidByTextAt_later rfl rfl tie3 noOwnUnsafe
end Go.Proofs.YtkghgjehjchajaaDoor
