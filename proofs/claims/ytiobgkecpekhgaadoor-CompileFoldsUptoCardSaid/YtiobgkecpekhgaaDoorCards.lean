/-
  DERIVED. GIVEN WITH THE SEED: THE CARDS: each row of YtiobgkecpekhgaaDoorRows.lean that lists a variable, with what it lists TIED to the program's text (the seventh form; the later family's looks); each row that meets fmt, with fmt's text TOLD by the authors' own Lean function (tested against real Go, not proved from fmt's source: count such statements apart). THE CARD IS WHAT COUNTS. Prove the row's statement (the work); the ties are given (YtiobgkecpekhgaaDoorTie.lean); close each card by the builder's one call (the guide's Derived/Test/ToyasCard.lean, 'card_holds'). Laid BY PROGRAM, IN A SANDBOX (cutbox-door.mjs). By AI agents, Wed Nov 11 2026. No macro, syntax, notation, axiom, sorry.
-/
import Derived.Test.YtiobgkecpekhgaaDoorRows
import GoSem.ClaimSeven
namespace Go.Proofs.YtiobgkecpekhgaaDoor
namespace Rows

/-- THE TIED CARD OF 'scorialaw09.CompileFolds'. -/
def compileFoldsCard : Claim7 := { stood := { row := compileFoldsRow, standIns := [], harness := (true, "ba1c9bbbaaeb1c41c0eb45ff6e8c829337d86f4461e5217540443f08f5c7681a"), looks := false }, kinds := [], alts := [], laidByText := true, laidKinds := [.funcs, .widerDeep, .mapped], laidTests := true, laidLooks := .later }
def CompileFoldsCardSaid : Prop := Claim7.holds Tryd.pinned (.plain (OpenSpec.ofChange compileFoldsSpec)) compileFoldsCard

/-- THE SECOND FORM's CARD OF 'scorialaw09.CompileFolds'. -/
def compileFoldsUptoCard : Claim7 := { stood := { row := compileFoldsUptoRow, standIns := [], harness := (true, "ba1c9bbbaaeb1c41c0eb45ff6e8c829337d86f4461e5217540443f08f5c7681a"), looks := false }, kinds := [], alts := [], laidByText := true, laidKinds := [.funcs, .widerDeep, .mapped], laidTests := true, laidLooks := .later }
def CompileFoldsUptoCardSaid : Prop := Claim7.holds Tryd.pinned (.plain (OpenSpec.upto compileFoldsSpec)) compileFoldsUptoCard
end Rows
end Go.Proofs.YtiobgkecpekhgaaDoor
