/-
  DERIVED. GIVEN WITH THE SEED: THE PROGRAM's TIES (one call each: nine closed facts by the kernel) AND EACH ROW's TIE, after the 31st guide's Derived/Test/Toyas{Tie, Card}.lean. No idea stands in it: it is a product of the set-up. Laid BY PROGRAM, IN A SANDBOX (cutbox-door.mjs). By AI agents, Wed Nov 11 2026. No macro, syntax, notation, axiom, sorry.
-/
import Derived.Test.YtiobgkecpekhgaaDoorRows
import Derived.LaidByTextLater
import Derived.SevenTiedAt
import Derived.LaidSub
import Derived.LaidOnce
namespace Go.Proofs.YtiobgkecpekhgaaDoor
open Go
set_option maxRecDepth 100000
theorem seatTie1 : Tryd.prog.laidByTextLater [("scoria/word.operations", Rows.laid_scoria_word_operations), ("scoria/tree.shapes", Rows.laid_scoria_tree_shapes), ("scoria/types.needs", Rows.laid_scoria_types_needs)] [.funcs, .widerDeep, .mapped] true :=
  Program.laidByTextLater_by_one 104 8 225 (by kernel_rfl) (by kernel_rfl) (by kernel_rfl) (by kernel_rfl) (by kernel_rfl) (by kernel_rfl) (fun _ _ => by kernel_rfl)
theorem noOwnUnsafe : Tryd.pinned.checked.prog.headLifts.contains "ownunsafe" = false := by kernel_rfl
theorem tie : Tryd.prog.laidByTextLater [("scoria/word.operations", Rows.laid_scoria_word_operations), ("scoria/tree.shapes", Rows.laid_scoria_tree_shapes), ("scoria/types.needs", Rows.laid_scoria_types_needs)] [.funcs, .widerDeep, .mapped] true :=
  Program.laidByTextLater.sub seatTie1 ["scoria/word.operations", "scoria/tree.shapes", "scoria/types.needs"] (by kernel_rfl) (by kernel_rfl)
theorem compileFolds_row_tie : Rows.compileFoldsRow.laidByTextAt .later Tryd.pinned [.funcs, .widerDeep, .mapped] true :=
  OpenClaim.laidByTextAt_later rfl rfl tie noOwnUnsafe
theorem compileFoldsUpto_row_tie : Rows.compileFoldsUptoRow.laidByTextAt .later Tryd.pinned [.funcs, .widerDeep, .mapped] true :=
  OpenClaim.laidByTextAt_later rfl rfl tie noOwnUnsafe
end Go.Proofs.YtiobgkecpekhgaaDoor
