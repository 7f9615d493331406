/-
  DERIVED. GIVEN WITH THE SEED: THE CARDS: each row of YthlhepgajgmhgaaDoorRows.lean that lists a variable, with what it lists TIED to the program's text (the seventh form; the later family's looks); each row that meets fmt, with fmt's text TOLD by the authors' own Lean function (tested against real Go, not proved from fmt's source: count such statements apart). THE CARD IS WHAT COUNTS. Prove the row's statement (the work); the ties are given (YthlhepgajgmhgaaDoorTie.lean); close each card by the builder's one call (the guide's Derived/Test/ToyasCard.lean, 'card_holds'). Laid BY PROGRAM, IN A SANDBOX (cutbox-door.mjs). By AI agents, Wed Nov 11 2026. No macro, syntax, notation, axiom, sorry.
-/
import Derived.Test.YthlhepgajgmhgaaDoorRows
import GoSem.ClaimSeven
namespace Go.Proofs.YthlhepgajgmhgaaDoor
namespace Rows

/-- THE TIED CARD OF 'scorialaw14.OpsStandard'. -/
def opsStandardCard : Claim7 := { stood := { row := opsStandardRow, standIns := [], harness := (true, "1163ee5362f0c8e66b380e24a742bc63a1ab4368929da8e983cb3610cb15f9a5"), looks := false }, kinds := [], alts := [], laidByText := true, laidKinds := [.data, .data, .pinned], laidTests := true, laidLooks := .later }
def OpsStandardCardSaid : Prop := Claim7.holds Tryd.pinned (.plain (OpenSpec.ofChange opsStandardSpec)) opsStandardCard

/-- THE SECOND FORM's CARD OF 'scorialaw14.OpsStandard'. -/
def opsStandardUptoCard : Claim7 := { stood := { row := opsStandardUptoRow, standIns := [], harness := (true, "1163ee5362f0c8e66b380e24a742bc63a1ab4368929da8e983cb3610cb15f9a5"), looks := false }, kinds := [], alts := [], laidByText := true, laidKinds := [.data, .data, .pinned], laidTests := true, laidLooks := .later }
def OpsStandardUptoCardSaid : Prop := Claim7.holds Tryd.pinned (.plain (OpenSpec.upto opsStandardSpec)) opsStandardUptoCard
end Rows
end Go.Proofs.YthlhepgajgmhgaaDoor
