/-
  DERIVED. GIVEN WITH THE SEED: THE CARDS: each row of YtbbgolecnmifpaaDoorRows.lean that lists a variable, with what it lists TIED to the program's text (the seventh form; the later family's looks); each row that meets fmt, with fmt's text TOLD by the authors' own Lean function (tested against real Go, not proved from fmt's source: count such statements apart). THE CARD IS WHAT COUNTS. Prove the row's statement (the work); the ties are given (YtbbgolecnmifpaaDoorTie.lean); close each card by the builder's one call (the guide's Derived/Test/ToyasCard.lean, 'card_holds'). Laid BY PROGRAM, IN A SANDBOX (cutbox-door.mjs). By AI agents, Wed Nov 11 2026. No macro, syntax, notation, axiom, sorry.
-/
import Derived.Test.YtbbgolecnmifpaaDoorRows
import GoSem.ClaimSeven
namespace Go.Proofs.YtbbgolecnmifpaaDoor
namespace Rows

/-- THE TIED CARD OF 'scorialaw09.CompileFolds'. -/
def compileFoldsCard : Claim7 := { stood := { row := compileFoldsRow, standIns := [], harness := (true, "47b516ac889e4339b40db6437b221864feb9f201b4b0076e1b7c04342cb0f045"), looks := false }, kinds := [], alts := [], laidByText := true, laidKinds := [.funcs, .widerDeep, .mapped], laidTests := true, laidLooks := .later }
def CompileFoldsCardSaid : Prop := Claim7.holds Tryd.pinned (.plain (OpenSpec.ofChange compileFoldsSpec)) compileFoldsCard

/-- THE TIED CARD OF 'scorialaw09.CompileSame'. -/
def compileSameCard : Claim7 := { stood := { row := compileSameRow, standIns := [], harness := (true, "47b516ac889e4339b40db6437b221864feb9f201b4b0076e1b7c04342cb0f045"), looks := false }, kinds := [], alts := [], laidByText := true, laidKinds := [.funcs, .widerDeep, .mapped], laidTests := true, laidLooks := .later }
def CompileSameCardSaid : Prop := Claim7.holds Tryd.pinned (.plain (OpenSpec.ofChange compileSameSpec)) compileSameCard

/-- THE TIED CARD OF 'scorialaw09.CompileFrom'. -/
def compileFromCard : Claim7 := { stood := { row := compileFromRow, standIns := [], harness := (true, "47b516ac889e4339b40db6437b221864feb9f201b4b0076e1b7c04342cb0f045"), looks := false }, kinds := [], alts := [], laidByText := true, laidKinds := [.funcs, .widerDeep, .mapped], laidTests := true, laidLooks := .later }
def CompileFromCardSaid : Prop := Claim7.holds Tryd.pinned (.plain (OpenSpec.ofChange compileFromSpec)) compileFromCard

/-- THE TIED CARD OF 'scorialaw09.CompileAgain'. -/
def compileAgainCard : Claim7 := { stood := { row := compileAgainRow, standIns := [], harness := (true, "47b516ac889e4339b40db6437b221864feb9f201b4b0076e1b7c04342cb0f045"), looks := false }, kinds := [], alts := [], laidByText := true, laidKinds := [.funcs, .widerDeep, .mapped], laidTests := true, laidLooks := .later }
def CompileAgainCardSaid : Prop := Claim7.holds Tryd.pinned (.plain (OpenSpec.ofChange compileAgainSpec)) compileAgainCard

/-- THE TIED CARD OF 'scorialaw09.CompileWords'. -/
def compileWordsCard : Claim7 := { stood := { row := compileWordsRow, standIns := [], harness := (true, "47b516ac889e4339b40db6437b221864feb9f201b4b0076e1b7c04342cb0f045"), looks := false }, kinds := [], alts := [], laidByText := true, laidKinds := [.funcs, .widerDeep, .mapped], laidTests := true, laidLooks := .later }
def CompileWordsCardSaid : Prop := Claim7.holds Tryd.pinned (.plain (OpenSpec.ofChange compileWordsSpec)) compileWordsCard

/-- THE SECOND FORM's CARD OF 'scorialaw09.CompileFolds'. -/
def compileFoldsUptoCard : Claim7 := { stood := { row := compileFoldsUptoRow, standIns := [], harness := (true, "47b516ac889e4339b40db6437b221864feb9f201b4b0076e1b7c04342cb0f045"), looks := false }, kinds := [], alts := [], laidByText := true, laidKinds := [.funcs, .widerDeep, .mapped], laidTests := true, laidLooks := .later }
def CompileFoldsUptoCardSaid : Prop := Claim7.holds Tryd.pinned (.plain (OpenSpec.upto compileFoldsSpec)) compileFoldsUptoCard

/-- THE SECOND FORM's CARD OF 'scorialaw09.CompileSame'. -/
def compileSameUptoCard : Claim7 := { stood := { row := compileSameUptoRow, standIns := [], harness := (true, "47b516ac889e4339b40db6437b221864feb9f201b4b0076e1b7c04342cb0f045"), looks := false }, kinds := [], alts := [], laidByText := true, laidKinds := [.funcs, .widerDeep, .mapped], laidTests := true, laidLooks := .later }
def CompileSameUptoCardSaid : Prop := Claim7.holds Tryd.pinned (.plain (OpenSpec.upto compileSameSpec)) compileSameUptoCard

/-- THE SECOND FORM's CARD OF 'scorialaw09.CompileFrom'. -/
def compileFromUptoCard : Claim7 := { stood := { row := compileFromUptoRow, standIns := [], harness := (true, "47b516ac889e4339b40db6437b221864feb9f201b4b0076e1b7c04342cb0f045"), looks := false }, kinds := [], alts := [], laidByText := true, laidKinds := [.funcs, .widerDeep, .mapped], laidTests := true, laidLooks := .later }
def CompileFromUptoCardSaid : Prop := Claim7.holds Tryd.pinned (.plain (OpenSpec.upto compileFromSpec)) compileFromUptoCard

/-- THE SECOND FORM's CARD OF 'scorialaw09.CompileAgain'. -/
def compileAgainUptoCard : Claim7 := { stood := { row := compileAgainUptoRow, standIns := [], harness := (true, "47b516ac889e4339b40db6437b221864feb9f201b4b0076e1b7c04342cb0f045"), looks := false }, kinds := [], alts := [], laidByText := true, laidKinds := [.funcs, .widerDeep, .mapped], laidTests := true, laidLooks := .later }
def CompileAgainUptoCardSaid : Prop := Claim7.holds Tryd.pinned (.plain (OpenSpec.upto compileAgainSpec)) compileAgainUptoCard

/-- THE SECOND FORM's CARD OF 'scorialaw09.CompileWords'. -/
def compileWordsUptoCard : Claim7 := { stood := { row := compileWordsUptoRow, standIns := [], harness := (true, "47b516ac889e4339b40db6437b221864feb9f201b4b0076e1b7c04342cb0f045"), looks := false }, kinds := [], alts := [], laidByText := true, laidKinds := [.funcs, .widerDeep, .mapped], laidTests := true, laidLooks := .later }
def CompileWordsUptoCardSaid : Prop := Claim7.holds Tryd.pinned (.plain (OpenSpec.upto compileWordsSpec)) compileWordsUptoCard
end Rows
end Go.Proofs.YtbbgolecnmifpaaDoor
