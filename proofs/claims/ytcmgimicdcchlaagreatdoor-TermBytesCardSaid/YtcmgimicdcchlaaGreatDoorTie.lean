/-
  DERIVED. GIVEN WITH THE SEED: THE PROGRAM's TIES (one call each: nine closed facts by the kernel) AND EACH ROW's TIE, after the 31st guide's Derived/Test/Toyas{Tie, Card}.lean. No idea stands in it: it is a product of the set-up. Laid BY PROGRAM, IN A SANDBOX (cutbox-door.mjs). By AI agents, Wed Nov 11 2026. No macro, syntax, notation, axiom, sorry.
-/
import Derived.Test.YtcmgimicdcchlaaGreatDoorRows
import Derived.LaidByTextLater
import Derived.SevenTiedAt
import Derived.LaidSub
import Derived.LaidOnce
namespace Go.Proofs.YtcmgimicdcchlaaGreatDoor
open Go
set_option maxRecDepth 100000
theorem seatTie1 : Tryz.prog.laidByTextLater [("math/bits.deBruijn32tab", Rows.laid_math_bits_deBruijn32tab), ("math/bits.deBruijn64tab", Rows.laid_math_bits_deBruijn64tab), ("internal/strconv.uint64pow10", Rows.laid_internal_strconv_uint64pow10), ("seneschal/sha.constants", Rows.laid_seneschal_sha_constants), ("errors.errorType", Rows.laid_errors_errorType)] [.data, .data, .data, .data, .handle] true :=
  Program.laidByTextLater_by_one 36 8 65 (by kernel_rfl) (by kernel_rfl) (by kernel_rfl) (by kernel_rfl) (by kernel_rfl) (by kernel_rfl) (fun _ _ => by kernel_rfl)
theorem noOwnUnsafe : Tryz.pinned.checked.prog.headLifts.contains "ownunsafe" = false := by kernel_rfl
theorem tie : Tryz.prog.laidByTextLater [("math/bits.deBruijn32tab", Rows.laid_math_bits_deBruijn32tab), ("math/bits.deBruijn64tab", Rows.laid_math_bits_deBruijn64tab), ("internal/strconv.uint64pow10", Rows.laid_internal_strconv_uint64pow10), ("seneschal/sha.constants", Rows.laid_seneschal_sha_constants), ("errors.errorType", Rows.laid_errors_errorType)] [.data, .data, .data, .data, .handle] true :=
  Program.laidByTextLater.sub seatTie1 ["math/bits.deBruijn32tab", "math/bits.deBruijn64tab", "internal/strconv.uint64pow10", "seneschal/sha.constants", "errors.errorType"] (by kernel_rfl) (by kernel_rfl)
theorem termSound_row_tie : Rows.termSoundRow.laidByTextAt .later Tryz.pinned [.data, .data, .data, .data, .handle] true :=
  OpenClaim.laidByTextAt_later rfl rfl tie noOwnUnsafe
theorem termBytes_row_tie : Rows.termBytesRow.laidByTextAt .later Tryz.pinned [.data, .data, .data, .data, .handle] true :=
  OpenClaim.laidByTextAt_later rfl rfl tie noOwnUnsafe
theorem termKnows_row_tie : Rows.termKnowsRow.laidByTextAt .later Tryz.pinned [.data, .data, .data, .data, .handle] true :=
  OpenClaim.laidByTextAt_later rfl rfl tie noOwnUnsafe
theorem ticketBytes_row_tie : Rows.ticketBytesRow.laidByTextAt .later Tryz.pinned [.data, .data, .data, .data, .handle] true :=
  OpenClaim.laidByTextAt_later rfl rfl tie noOwnUnsafe
theorem ticketJudges_row_tie : Rows.ticketJudgesRow.laidByTextAt .later Tryz.pinned [.data, .data, .data, .data, .handle] true :=
  OpenClaim.laidByTextAt_later rfl rfl tie noOwnUnsafe
theorem ticketBack_row_tie : Rows.ticketBackRow.laidByTextAt .later Tryz.pinned [.data, .data, .data, .data, .handle] true :=
  OpenClaim.laidByTextAt_later rfl rfl tie noOwnUnsafe
theorem ticketWithin_row_tie : Rows.ticketWithinRow.laidByTextAt .later Tryz.pinned [.data, .data, .data, .data, .handle] true :=
  OpenClaim.laidByTextAt_later rfl rfl tie noOwnUnsafe
theorem ticketSeals_row_tie : Rows.ticketSealsRow.laidByTextAt .later Tryz.pinned [.data, .data, .data, .data, .handle] true :=
  OpenClaim.laidByTextAt_later rfl rfl tie noOwnUnsafe
theorem ticketOpens_row_tie : Rows.ticketOpensRow.laidByTextAt .later Tryz.pinned [.data, .data, .data, .data, .handle] true :=
  OpenClaim.laidByTextAt_later rfl rfl tie noOwnUnsafe
theorem ticketAnswers_row_tie : Rows.ticketAnswersRow.laidByTextAt .later Tryz.pinned [.data, .data, .data, .data, .handle] true :=
  OpenClaim.laidByTextAt_later rfl rfl tie noOwnUnsafe
theorem termSoundUpto_row_tie : Rows.termSoundUptoRow.laidByTextAt .later Tryz.pinned [.data, .data, .data, .data, .handle] true :=
  OpenClaim.laidByTextAt_later rfl rfl tie noOwnUnsafe
theorem termBytesUpto_row_tie : Rows.termBytesUptoRow.laidByTextAt .later Tryz.pinned [.data, .data, .data, .data, .handle] true :=
  OpenClaim.laidByTextAt_later rfl rfl tie noOwnUnsafe
theorem termKnowsUpto_row_tie : Rows.termKnowsUptoRow.laidByTextAt .later Tryz.pinned [.data, .data, .data, .data, .handle] true :=
  OpenClaim.laidByTextAt_later rfl rfl tie noOwnUnsafe
theorem ticketBytesUpto_row_tie : Rows.ticketBytesUptoRow.laidByTextAt .later Tryz.pinned [.data, .data, .data, .data, .handle] true :=
  OpenClaim.laidByTextAt_later rfl rfl tie noOwnUnsafe
theorem ticketJudgesUpto_row_tie : Rows.ticketJudgesUptoRow.laidByTextAt .later Tryz.pinned [.data, .data, .data, .data, .handle] true :=
  OpenClaim.laidByTextAt_later rfl rfl tie noOwnUnsafe
theorem ticketBackUpto_row_tie : Rows.ticketBackUptoRow.laidByTextAt .later Tryz.pinned [.data, .data, .data, .data, .handle] true :=
  OpenClaim.laidByTextAt_later rfl rfl tie noOwnUnsafe
theorem ticketWithinUpto_row_tie : Rows.ticketWithinUptoRow.laidByTextAt .later Tryz.pinned [.data, .data, .data, .data, .handle] true :=
  OpenClaim.laidByTextAt_later rfl rfl tie noOwnUnsafe
theorem ticketSealsUpto_row_tie : Rows.ticketSealsUptoRow.laidByTextAt .later Tryz.pinned [.data, .data, .data, .data, .handle] true :=
  OpenClaim.laidByTextAt_later rfl rfl tie noOwnUnsafe
theorem ticketOpensUpto_row_tie : Rows.ticketOpensUptoRow.laidByTextAt .later Tryz.pinned [.data, .data, .data, .data, .handle] true :=
  OpenClaim.laidByTextAt_later rfl rfl tie noOwnUnsafe
theorem ticketAnswersUpto_row_tie : Rows.ticketAnswersUptoRow.laidByTextAt .later Tryz.pinned [.data, .data, .data, .data, .handle] true :=
  OpenClaim.laidByTextAt_later rfl rfl tie noOwnUnsafe
end Go.Proofs.YtcmgimicdcchlaaGreatDoor
