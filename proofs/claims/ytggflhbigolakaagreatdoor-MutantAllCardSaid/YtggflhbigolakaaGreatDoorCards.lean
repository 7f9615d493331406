/-
  DERIVED. GIVEN WITH THE SEED: THE CARDS: each row of YtggflhbigolakaaGreatDoorRows.lean that lists a variable, with what it lists TIED to the program's text (the seventh form; the later family's looks); each row that meets fmt, with fmt's text TOLD by the authors' own Lean function (tested against real Go, not proved from fmt's source: count such statements apart). THE CARD IS WHAT COUNTS. Prove the row's statement (the work); the ties are given (YtggflhbigolakaaGreatDoorTie.lean); close each card by the builder's one call (the guide's Derived/Test/ToyasCard.lean, 'card_holds'). Laid BY PROGRAM, IN A SANDBOX (cutbox-door.mjs). By AI agents, Wed Nov 11 2026. No macro, syntax, notation, axiom, sorry.
-/
import Derived.Test.YtggflhbigolakaaGreatDoorRows
import GoSem.ClaimSeven
namespace Go.Proofs.YtggflhbigolakaaGreatDoor
namespace Rows

/-- THE TIED CARD OF 'scorialaw15.MutantMakes'. -/
def mutantMakesCard : Claim7 := { stood := { row := mutantMakesRow, standIns := [], harness := (true, "da4bda1896b641c872a33b6ce03967a107b81d59be84e65975303fffd38c5c0f"), looks := false }, kinds := [], alts := [], laidByText := true, laidKinds := [.data, .pinned], laidTests := true, laidLooks := .later }
def MutantMakesCardSaid : Prop := Claim7.holds Tryz.pinned (.plain (OpenSpec.ofChange mutantMakesSpec)) mutantMakesCard

/-- THE TIED CARD OF 'scorialaw15.MutantCompares'. -/
def mutantComparesCard : Claim7 := { stood := { row := mutantComparesRow, standIns := [], harness := (true, "da4bda1896b641c872a33b6ce03967a107b81d59be84e65975303fffd38c5c0f"), looks := false }, kinds := [], alts := [], laidByText := true, laidKinds := [.data, .pinned], laidTests := true, laidLooks := .later }
def MutantComparesCardSaid : Prop := Claim7.holds Tryz.pinned (.plain (OpenSpec.ofChange mutantComparesSpec)) mutantComparesCard

/-- THE TIED CARD OF 'scorialaw15.MutantAll'. -/
def mutantAllCard : Claim7 := { stood := { row := mutantAllRow, standIns := [], harness := (true, "da4bda1896b641c872a33b6ce03967a107b81d59be84e65975303fffd38c5c0f"), looks := false }, kinds := [], alts := [], laidByText := true, laidKinds := [.data, .pinned], laidTests := true, laidLooks := .later }
def MutantAllCardSaid : Prop := Claim7.holds Tryz.pinned (.plain (OpenSpec.ofChange mutantAllSpec)) mutantAllCard

/-- THE TIED CARD OF 'scorialaw15.MutantApart'. -/
def mutantApartCard : Claim7 := { stood := { row := mutantApartRow, standIns := [], harness := (true, "da4bda1896b641c872a33b6ce03967a107b81d59be84e65975303fffd38c5c0f"), looks := false }, kinds := [], alts := [], laidByText := true, laidKinds := [.data, .pinned], laidTests := true, laidLooks := .later }
def MutantApartCardSaid : Prop := Claim7.holds Tryz.pinned (.plain (OpenSpec.ofChange mutantApartSpec)) mutantApartCard

/-- THE TIED CARD OF 'scorialaw15.MutantBack'. -/
def mutantBackCard : Claim7 := { stood := { row := mutantBackRow, standIns := [], harness := (true, "da4bda1896b641c872a33b6ce03967a107b81d59be84e65975303fffd38c5c0f"), looks := false }, kinds := [], alts := [], laidByText := true, laidKinds := [.data, .pinned], laidTests := true, laidLooks := .later }
def MutantBackCardSaid : Prop := Claim7.holds Tryz.pinned (.plain (OpenSpec.ofChange mutantBackSpec)) mutantBackCard

/-- THE TIED CARD OF 'scorialaw15.MutantNormal'. -/
def mutantNormalCard : Claim7 := { stood := { row := mutantNormalRow, standIns := [], harness := (true, "da4bda1896b641c872a33b6ce03967a107b81d59be84e65975303fffd38c5c0f"), looks := false }, kinds := [], alts := [], laidByText := true, laidKinds := [.data, .pinned], laidTests := true, laidLooks := .later }
def MutantNormalCardSaid : Prop := Claim7.holds Tryz.pinned (.plain (OpenSpec.ofChange mutantNormalSpec)) mutantNormalCard

/-- THE TIED CARD OF 'scorialaw15.MutantWhole'. -/
def mutantWholeCard : Claim7 := { stood := { row := mutantWholeRow, standIns := [], harness := (true, "da4bda1896b641c872a33b6ce03967a107b81d59be84e65975303fffd38c5c0f"), looks := false }, kinds := [], alts := [], laidByText := true, laidKinds := [.data, .pinned], laidTests := true, laidLooks := .later }
def MutantWholeCardSaid : Prop := Claim7.holds Tryz.pinned (.plain (OpenSpec.ofChange mutantWholeSpec)) mutantWholeCard

/-- THE SECOND FORM's CARD OF 'scorialaw15.MutantMakes'. -/
def mutantMakesUptoCard : Claim7 := { stood := { row := mutantMakesUptoRow, standIns := [], harness := (true, "da4bda1896b641c872a33b6ce03967a107b81d59be84e65975303fffd38c5c0f"), looks := false }, kinds := [], alts := [], laidByText := true, laidKinds := [.data, .pinned], laidTests := true, laidLooks := .later }
def MutantMakesUptoCardSaid : Prop := Claim7.holds Tryz.pinned (.plain (OpenSpec.upto mutantMakesSpec)) mutantMakesUptoCard

/-- THE SECOND FORM's CARD OF 'scorialaw15.MutantCompares'. -/
def mutantComparesUptoCard : Claim7 := { stood := { row := mutantComparesUptoRow, standIns := [], harness := (true, "da4bda1896b641c872a33b6ce03967a107b81d59be84e65975303fffd38c5c0f"), looks := false }, kinds := [], alts := [], laidByText := true, laidKinds := [.data, .pinned], laidTests := true, laidLooks := .later }
def MutantComparesUptoCardSaid : Prop := Claim7.holds Tryz.pinned (.plain (OpenSpec.upto mutantComparesSpec)) mutantComparesUptoCard

/-- THE SECOND FORM's CARD OF 'scorialaw15.MutantAll'. -/
def mutantAllUptoCard : Claim7 := { stood := { row := mutantAllUptoRow, standIns := [], harness := (true, "da4bda1896b641c872a33b6ce03967a107b81d59be84e65975303fffd38c5c0f"), looks := false }, kinds := [], alts := [], laidByText := true, laidKinds := [.data, .pinned], laidTests := true, laidLooks := .later }
def MutantAllUptoCardSaid : Prop := Claim7.holds Tryz.pinned (.plain (OpenSpec.upto mutantAllSpec)) mutantAllUptoCard

/-- THE SECOND FORM's CARD OF 'scorialaw15.MutantApart'. -/
def mutantApartUptoCard : Claim7 := { stood := { row := mutantApartUptoRow, standIns := [], harness := (true, "da4bda1896b641c872a33b6ce03967a107b81d59be84e65975303fffd38c5c0f"), looks := false }, kinds := [], alts := [], laidByText := true, laidKinds := [.data, .pinned], laidTests := true, laidLooks := .later }
def MutantApartUptoCardSaid : Prop := Claim7.holds Tryz.pinned (.plain (OpenSpec.upto mutantApartSpec)) mutantApartUptoCard

/-- THE SECOND FORM's CARD OF 'scorialaw15.MutantBack'. -/
def mutantBackUptoCard : Claim7 := { stood := { row := mutantBackUptoRow, standIns := [], harness := (true, "da4bda1896b641c872a33b6ce03967a107b81d59be84e65975303fffd38c5c0f"), looks := false }, kinds := [], alts := [], laidByText := true, laidKinds := [.data, .pinned], laidTests := true, laidLooks := .later }
def MutantBackUptoCardSaid : Prop := Claim7.holds Tryz.pinned (.plain (OpenSpec.upto mutantBackSpec)) mutantBackUptoCard

/-- THE SECOND FORM's CARD OF 'scorialaw15.MutantNormal'. -/
def mutantNormalUptoCard : Claim7 := { stood := { row := mutantNormalUptoRow, standIns := [], harness := (true, "da4bda1896b641c872a33b6ce03967a107b81d59be84e65975303fffd38c5c0f"), looks := false }, kinds := [], alts := [], laidByText := true, laidKinds := [.data, .pinned], laidTests := true, laidLooks := .later }
def MutantNormalUptoCardSaid : Prop := Claim7.holds Tryz.pinned (.plain (OpenSpec.upto mutantNormalSpec)) mutantNormalUptoCard

/-- THE SECOND FORM's CARD OF 'scorialaw15.MutantWhole'. -/
def mutantWholeUptoCard : Claim7 := { stood := { row := mutantWholeUptoRow, standIns := [], harness := (true, "da4bda1896b641c872a33b6ce03967a107b81d59be84e65975303fffd38c5c0f"), looks := false }, kinds := [], alts := [], laidByText := true, laidKinds := [.data, .pinned], laidTests := true, laidLooks := .later }
def MutantWholeUptoCardSaid : Prop := Claim7.holds Tryz.pinned (.plain (OpenSpec.upto mutantWholeSpec)) mutantWholeUptoCard
end Rows
end Go.Proofs.YtggflhbigolakaaGreatDoor
