/-
  DERIVED. GIVEN WITH THE SEED: THE CARDS: each row of YtijakngaipdncaaDoorRows.lean that lists a variable, with what it lists TIED to the program's text (the seventh form; the later family's looks); each row that meets fmt, with fmt's text TOLD by the authors' own Lean function (tested against real Go, not proved from fmt's source: count such statements apart). THE CARD IS WHAT COUNTS. Prove the row's statement (the work); the ties are given (YtijakngaipdncaaDoorTie.lean); close each card by the builder's one call (the guide's Derived/Test/ToyasCard.lean, 'card_holds'). Laid BY PROGRAM, IN A SANDBOX (cutbox-door.mjs). By AI agents, Wed Nov 11 2026. No macro, syntax, notation, axiom, sorry.
-/
import Derived.Test.YtijakngaipdncaaDoorRows
import GoSem.ClaimSeven
namespace Go.Proofs.YtijakngaipdncaaDoor
namespace Rows

/-- THE TIED CARD OF 'scorialaw09.CompileAgain'. -/
def compileAgainCard : Claim7 := { stood := { row := compileAgainRow, standIns := [], harness := (true, "4d6a41d0044e03d3f6f867e93ec29037925e688c547e2dfb212af9de6045dbe9"), looks := false }, kinds := [], alts := [], laidByText := true, laidKinds := [.funcs, .widerDeep, .mapped], laidTests := true, laidLooks := .later }
def CompileAgainCardSaid : Prop := Claim7.holds Tryd.pinned (.plain (OpenSpec.ofChange compileAgainSpec)) compileAgainCard

/-- THE SECOND FORM's CARD OF 'scorialaw09.CompileAgain'. -/
def compileAgainUptoCard : Claim7 := { stood := { row := compileAgainUptoRow, standIns := [], harness := (true, "4d6a41d0044e03d3f6f867e93ec29037925e688c547e2dfb212af9de6045dbe9"), looks := false }, kinds := [], alts := [], laidByText := true, laidKinds := [.funcs, .widerDeep, .mapped], laidTests := true, laidLooks := .later }
def CompileAgainUptoCardSaid : Prop := Claim7.holds Tryd.pinned (.plain (OpenSpec.upto compileAgainSpec)) compileAgainUptoCard
end Rows
end Go.Proofs.YtijakngaipdncaaDoor
