/-
  DERIVED. GIVEN WITH THE SEED: THE PROGRAM's TIES (one call each: nine closed facts by the kernel) AND EACH ROW's TIE, after the 31st guide's Derived/Test/Toyas{Tie, Card}.lean. No idea stands in it: it is a product of the set-up. Laid BY PROGRAM, IN A SANDBOX (cutbox-door.mjs). By AI agents, Wed Nov 11 2026. No macro, syntax, notation, axiom, sorry.
-/
import Derived.Test.YtbenedckmapjoaaDoorRows
import Derived.LaidByTextLater
import Derived.SevenTiedAt
import Derived.LaidSub
import Derived.LaidOnce
namespace Go.Proofs.YtbenedckmapjoaaDoor
open Go
set_option maxRecDepth 100000
theorem seatTie1 : Tryd.prog.laidByTextLater [("imprimatur/sha2.constants", Rows.laid_imprimatur_sha2_constants), ("imprimatur/sha2.starts", Rows.laid_imprimatur_sha2_starts), ("imprimatur/field.order", Rows.laid_imprimatur_field_order), ("imprimatur/ed.curve", Rows.laid_imprimatur_ed_curve), ("imprimatur/ed.once", Rows.laid_imprimatur_ed_once), ("imprimatur/ed.baseX", Rows.laid_imprimatur_ed_baseX), ("imprimatur/ed.baseY", Rows.laid_imprimatur_ed_baseY), ("imprimatur/ed.baseT", Rows.laid_imprimatur_ed_baseT)] [.data, .data, .widerDeep, .data, .data, .data, .data, .data] true :=
  Program.laidByTextLater_by_one 49 8 81 (by kernel_rfl) (by kernel_rfl) (by kernel_rfl) (by kernel_rfl) (by kernel_rfl) (by kernel_rfl) (fun _ _ => by kernel_rfl)
theorem noOwnUnsafe : Tryd.pinned.checked.prog.headLifts.contains "ownunsafe" = false := by kernel_rfl
theorem tie : Tryd.prog.laidByTextLater [("imprimatur/sha2.constants", Rows.laid_imprimatur_sha2_constants), ("imprimatur/sha2.starts", Rows.laid_imprimatur_sha2_starts), ("imprimatur/ed.curve", Rows.laid_imprimatur_ed_curve), ("imprimatur/ed.baseX", Rows.laid_imprimatur_ed_baseX), ("imprimatur/ed.baseY", Rows.laid_imprimatur_ed_baseY), ("imprimatur/ed.baseT", Rows.laid_imprimatur_ed_baseT)] [.data, .data, .data, .data, .data, .data] true :=
  Program.laidByTextLater.sub seatTie1 ["imprimatur/sha2.constants", "imprimatur/sha2.starts", "imprimatur/ed.curve", "imprimatur/ed.baseX", "imprimatur/ed.baseY", "imprimatur/ed.baseT"] (by kernel_rfl) (by kernel_rfl)
theorem topScores_row_tie : Rows.topScoresRow.laidByTextAt .later Tryd.pinned [.data, .data, .data, .data, .data, .data] true :=
  OpenClaim.laidByTextAt_later rfl rfl tie noOwnUnsafe
theorem topJournal_row_tie : Rows.topJournalRow.laidByTextAt .later Tryd.pinned [.data, .data, .data, .data, .data, .data] true :=
  OpenClaim.laidByTextAt_later rfl rfl tie noOwnUnsafe
theorem topChunks_row_tie : Rows.topChunksRow.laidByTextAt .later Tryd.pinned [.data, .data, .data, .data, .data, .data] true :=
  OpenClaim.laidByTextAt_later rfl rfl tie noOwnUnsafe
theorem tie2 : Tryd.prog.laidByTextLater [("imprimatur/sha2.constants", Rows.laid_imprimatur_sha2_constants), ("imprimatur/sha2.starts", Rows.laid_imprimatur_sha2_starts), ("imprimatur/field.order", Rows.laid_imprimatur_field_order), ("imprimatur/ed.curve", Rows.laid_imprimatur_ed_curve), ("imprimatur/ed.once", Rows.laid_imprimatur_ed_once), ("imprimatur/ed.baseX", Rows.laid_imprimatur_ed_baseX), ("imprimatur/ed.baseY", Rows.laid_imprimatur_ed_baseY), ("imprimatur/ed.baseT", Rows.laid_imprimatur_ed_baseT)] [.data, .data, .widerDeep, .data, .data, .data, .data, .data] true :=
  Program.laidByTextLater.sub seatTie1 ["imprimatur/sha2.constants", "imprimatur/sha2.starts", "imprimatur/field.order", "imprimatur/ed.curve", "imprimatur/ed.once", "imprimatur/ed.baseX", "imprimatur/ed.baseY", "imprimatur/ed.baseT"] (by kernel_rfl) (by kernel_rfl)
theorem topProves_row_tie : Rows.topProvesRow.laidByTextAt .later Tryd.pinned [.data, .data, .widerDeep, .data, .data, .data, .data, .data] true :=
  OpenClaim.laidByTextAt_later rfl rfl tie2 noOwnUnsafe
theorem topScoresUpto_row_tie : Rows.topScoresUptoRow.laidByTextAt .later Tryd.pinned [.data, .data, .data, .data, .data, .data] true :=
  OpenClaim.laidByTextAt_later rfl rfl tie noOwnUnsafe
theorem topProvesUpto_row_tie : Rows.topProvesUptoRow.laidByTextAt .later Tryd.pinned [.data, .data, .widerDeep, .data, .data, .data, .data, .data] true :=
  OpenClaim.laidByTextAt_later rfl rfl tie2 noOwnUnsafe
theorem topJournalUpto_row_tie : Rows.topJournalUptoRow.laidByTextAt .later Tryd.pinned [.data, .data, .data, .data, .data, .data] true :=
  OpenClaim.laidByTextAt_later rfl rfl tie noOwnUnsafe
theorem topChunksUpto_row_tie : Rows.topChunksUptoRow.laidByTextAt .later Tryd.pinned [.data, .data, .data, .data, .data, .data] true :=
  OpenClaim.laidByTextAt_later rfl rfl tie noOwnUnsafe
end Go.Proofs.YtbenedckmapjoaaDoor
