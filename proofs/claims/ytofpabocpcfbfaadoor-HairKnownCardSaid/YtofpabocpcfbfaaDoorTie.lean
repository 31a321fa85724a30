/-
  DERIVED. GIVEN WITH THE SEED: THE PROGRAM's TIES (one call each: nine closed facts by the kernel) AND EACH ROW's TIE, after the 31st guide's Derived/Test/Toyas{Tie, Card}.lean. No idea stands in it: it is a product of the set-up. Laid BY PROGRAM, IN A SANDBOX (cutbox-door.mjs). By AI agents, Wed Nov 11 2026. No macro, syntax, notation, axiom, sorry.
-/
import Derived.Test.YtofpabocpcfbfaaDoorRows
import Derived.LaidByTextLater
import Derived.SevenTiedAt
import Derived.LaidSub
import Derived.LaidOnce
namespace Go.Proofs.YtofpabocpcfbfaaDoor
open Go
set_option maxRecDepth 100000
theorem seatTie1 : Tryd.prog.laidByTextLater [("skewbald/hair.parts", Rows.laid_skewbald_hair_parts), ("skewbald/harness.nothing", Rows.laid_skewbald_harness_nothing), ("skewbald/harness.overs", Rows.laid_skewbald_harness_overs), ("skewbald/plank.hits", Rows.laid_skewbald_plank_hits), ("skewbald/plank.nowhere", Rows.laid_skewbald_plank_nowhere)] [.funcs, .data, .funcs, .funcs, .data] true :=
  Program.laidByTextLater_by_one 34 8 4 (by kernel_rfl) (by kernel_rfl) (by kernel_rfl) (by kernel_rfl) (by kernel_rfl) (by kernel_rfl) (fun _ _ => by kernel_rfl)
theorem noOwnUnsafe : Tryd.pinned.checked.prog.headLifts.contains "ownunsafe" = false := by kernel_rfl
theorem tie : Tryd.prog.laidByTextLater [("skewbald/hair.parts", Rows.laid_skewbald_hair_parts)] [.funcs] true :=
  Program.laidByTextLater.sub seatTie1 ["skewbald/hair.parts"] (by kernel_rfl) (by kernel_rfl)
theorem hairOff_row_tie : Rows.hairOffRow.laidByTextAt .later Tryd.pinned [.funcs] true :=
  OpenClaim.laidByTextAt_later rfl rfl tie noOwnUnsafe
theorem hairBest_row_tie : Rows.hairBestRow.laidByTextAt .later Tryd.pinned [.funcs] true :=
  OpenClaim.laidByTextAt_later rfl rfl tie noOwnUnsafe
theorem hairLacks_row_tie : Rows.hairLacksRow.laidByTextAt .later Tryd.pinned [.funcs] true :=
  OpenClaim.laidByTextAt_later rfl rfl tie noOwnUnsafe
theorem hairBuy_row_tie : Rows.hairBuyRow.laidByTextAt .later Tryd.pinned [.funcs] true :=
  OpenClaim.laidByTextAt_later rfl rfl tie noOwnUnsafe
theorem hairMore_row_tie : Rows.hairMoreRow.laidByTextAt .later Tryd.pinned [.funcs] true :=
  OpenClaim.laidByTextAt_later rfl rfl tie noOwnUnsafe
theorem hairSame_row_tie : Rows.hairSameRow.laidByTextAt .later Tryd.pinned [.funcs] true :=
  OpenClaim.laidByTextAt_later rfl rfl tie noOwnUnsafe
theorem hairEither_row_tie : Rows.hairEitherRow.laidByTextAt .later Tryd.pinned [.funcs] true :=
  OpenClaim.laidByTextAt_later rfl rfl tie noOwnUnsafe
theorem hairKnown_row_tie : Rows.hairKnownRow.laidByTextAt .later Tryd.pinned [.funcs] true :=
  OpenClaim.laidByTextAt_later rfl rfl tie noOwnUnsafe
theorem tie2 : Tryd.prog.laidByTextLater [("skewbald/hair.parts", Rows.laid_skewbald_hair_parts), ("skewbald/harness.nothing", Rows.laid_skewbald_harness_nothing), ("skewbald/harness.overs", Rows.laid_skewbald_harness_overs)] [.funcs, .data, .funcs] true :=
  Program.laidByTextLater.sub seatTie1 ["skewbald/hair.parts", "skewbald/harness.nothing", "skewbald/harness.overs"] (by kernel_rfl) (by kernel_rfl)
theorem topStable_row_tie : Rows.topStableRow.laidByTextAt .later Tryd.pinned [.funcs, .data, .funcs] true :=
  OpenClaim.laidByTextAt_later rfl rfl tie2 noOwnUnsafe
theorem harnessDays_row_tie : Rows.harnessDaysRow.laidByTextAt .later Tryd.pinned [.funcs, .data, .funcs] true :=
  OpenClaim.laidByTextAt_later rfl rfl tie2 noOwnUnsafe
theorem tie3 : Tryd.prog.laidByTextLater [("skewbald/hair.parts", Rows.laid_skewbald_hair_parts), ("skewbald/plank.hits", Rows.laid_skewbald_plank_hits), ("skewbald/plank.nowhere", Rows.laid_skewbald_plank_nowhere)] [.funcs, .funcs, .data] true :=
  Program.laidByTextLater.sub seatTie1 ["skewbald/hair.parts", "skewbald/plank.hits", "skewbald/plank.nowhere"] (by kernel_rfl) (by kernel_rfl)
theorem topLeast_row_tie : Rows.topLeastRow.laidByTextAt .later Tryd.pinned [.funcs, .funcs, .data] true :=
  OpenClaim.laidByTextAt_later rfl rfl tie3 noOwnUnsafe
theorem hairOffUpto_row_tie : Rows.hairOffUptoRow.laidByTextAt .later Tryd.pinned [.funcs] true :=
  OpenClaim.laidByTextAt_later rfl rfl tie noOwnUnsafe
theorem hairBestUpto_row_tie : Rows.hairBestUptoRow.laidByTextAt .later Tryd.pinned [.funcs] true :=
  OpenClaim.laidByTextAt_later rfl rfl tie noOwnUnsafe
theorem hairLacksUpto_row_tie : Rows.hairLacksUptoRow.laidByTextAt .later Tryd.pinned [.funcs] true :=
  OpenClaim.laidByTextAt_later rfl rfl tie noOwnUnsafe
theorem hairBuyUpto_row_tie : Rows.hairBuyUptoRow.laidByTextAt .later Tryd.pinned [.funcs] true :=
  OpenClaim.laidByTextAt_later rfl rfl tie noOwnUnsafe
theorem hairMoreUpto_row_tie : Rows.hairMoreUptoRow.laidByTextAt .later Tryd.pinned [.funcs] true :=
  OpenClaim.laidByTextAt_later rfl rfl tie noOwnUnsafe
theorem hairSameUpto_row_tie : Rows.hairSameUptoRow.laidByTextAt .later Tryd.pinned [.funcs] true :=
  OpenClaim.laidByTextAt_later rfl rfl tie noOwnUnsafe
theorem hairEitherUpto_row_tie : Rows.hairEitherUptoRow.laidByTextAt .later Tryd.pinned [.funcs] true :=
  OpenClaim.laidByTextAt_later rfl rfl tie noOwnUnsafe
theorem topStableUpto_row_tie : Rows.topStableUptoRow.laidByTextAt .later Tryd.pinned [.funcs, .data, .funcs] true :=
  OpenClaim.laidByTextAt_later rfl rfl tie2 noOwnUnsafe
theorem hairKnownUpto_row_tie : Rows.hairKnownUptoRow.laidByTextAt .later Tryd.pinned [.funcs] true :=
  OpenClaim.laidByTextAt_later rfl rfl tie noOwnUnsafe
theorem topLeastUpto_row_tie : Rows.topLeastUptoRow.laidByTextAt .later Tryd.pinned [.funcs, .funcs, .data] true :=
  OpenClaim.laidByTextAt_later rfl rfl tie3 noOwnUnsafe
theorem harnessDaysUpto_row_tie : Rows.harnessDaysUptoRow.laidByTextAt .later Tryd.pinned [.funcs, .data, .funcs] true :=
  OpenClaim.laidByTextAt_later rfl rfl tie2 noOwnUnsafe
end Go.Proofs.YtofpabocpcfbfaaDoor
