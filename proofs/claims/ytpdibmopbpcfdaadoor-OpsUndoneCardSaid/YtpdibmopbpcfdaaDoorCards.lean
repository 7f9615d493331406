/-
  DERIVED. GIVEN WITH THE SEED: THE CARDS: each row of YtpdibmopbpcfdaaDoorRows.lean that lists a variable, with what it lists TIED to the program's text (the seventh form; the later family's looks); each row that meets fmt, with fmt's text TOLD by the authors' own Lean function (tested against real Go, not proved from fmt's source: count such statements apart). THE CARD IS WHAT COUNTS. Prove the row's statement (the work); the ties are given (YtpdibmopbpcfdaaDoorTie.lean); close each card by the builder's one call (the guide's Derived/Test/ToyasCard.lean, 'card_holds'). Laid BY PROGRAM, IN A SANDBOX (cutbox-door.mjs). By AI agents, Wed Nov 11 2026. No macro, syntax, notation, axiom, sorry.
-/
import Derived.Test.YtpdibmopbpcfdaaDoorRows
import GoSem.ClaimSeven
namespace Go.Proofs.YtpdibmopbpcfdaaDoor
namespace Rows

/-- THE TIED CARD OF 'scorialaw14.OpsCompares'. -/
def opsComparesCard : Claim7 := { stood := { row := opsComparesRow, standIns := [], harness := (true, "e3c0cb9198b595cf13fc772155a3bdb7a92c583c28b43a3f5542151cbe5d2111"), looks := false }, kinds := [], alts := [], laidByText := true, laidKinds := [.data, .data, .pinned], laidTests := true, laidLooks := .later }
def OpsComparesCardSaid : Prop := Claim7.holds Tryd.pinned (.plain (OpenSpec.ofChange opsComparesSpec)) opsComparesCard

/-- THE TIED CARD OF 'scorialaw14.OpsUndone'. -/
def opsUndoneCard : Claim7 := { stood := { row := opsUndoneRow, standIns := [], harness := (true, "e3c0cb9198b595cf13fc772155a3bdb7a92c583c28b43a3f5542151cbe5d2111"), looks := false }, kinds := [], alts := [], laidByText := true, laidKinds := [.data, .data, .pinned], laidTests := true, laidLooks := .later }
def OpsUndoneCardSaid : Prop := Claim7.holds Tryd.pinned (.plain (OpenSpec.ofChange opsUndoneSpec)) opsUndoneCard

/-- THE SECOND FORM's CARD OF 'scorialaw14.OpsCompares'. -/
def opsComparesUptoCard : Claim7 := { stood := { row := opsComparesUptoRow, standIns := [], harness := (true, "e3c0cb9198b595cf13fc772155a3bdb7a92c583c28b43a3f5542151cbe5d2111"), looks := false }, kinds := [], alts := [], laidByText := true, laidKinds := [.data, .data, .pinned], laidTests := true, laidLooks := .later }
def OpsComparesUptoCardSaid : Prop := Claim7.holds Tryd.pinned (.plain (OpenSpec.upto opsComparesSpec)) opsComparesUptoCard

/-- THE SECOND FORM's CARD OF 'scorialaw14.OpsUndone'. -/
def opsUndoneUptoCard : Claim7 := { stood := { row := opsUndoneUptoRow, standIns := [], harness := (true, "e3c0cb9198b595cf13fc772155a3bdb7a92c583c28b43a3f5542151cbe5d2111"), looks := false }, kinds := [], alts := [], laidByText := true, laidKinds := [.data, .data, .pinned], laidTests := true, laidLooks := .later }
def OpsUndoneUptoCardSaid : Prop := Claim7.holds Tryd.pinned (.plain (OpenSpec.upto opsUndoneSpec)) opsUndoneUptoCard
end Rows
end Go.Proofs.YtpdibmopbpcfdaaDoor
