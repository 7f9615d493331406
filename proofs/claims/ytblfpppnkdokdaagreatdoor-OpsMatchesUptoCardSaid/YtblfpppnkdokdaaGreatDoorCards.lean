/-
  DERIVED. GIVEN WITH THE SEED: THE CARDS: each row of YtblfpppnkdokdaaGreatDoorRows.lean that lists a variable, with what it lists TIED to the program's text (the seventh form; the later family's looks); each row that meets fmt, with fmt's text TOLD by the authors' own Lean function (tested against real Go, not proved from fmt's source: count such statements apart). THE CARD IS WHAT COUNTS. Prove the row's statement (the work); the ties are given (YtblfpppnkdokdaaGreatDoorTie.lean); close each card by the builder's one call (the guide's Derived/Test/ToyasCard.lean, 'card_holds'). Laid BY PROGRAM, IN A SANDBOX (cutbox-door.mjs). By AI agents, Wed Nov 11 2026. No macro, syntax, notation, axiom, sorry.
-/
import Derived.Test.YtblfpppnkdokdaaGreatDoorRows
import GoSem.ClaimSeven
namespace Go.Proofs.YtblfpppnkdokdaaGreatDoor
namespace Rows

/-- THE TIED CARD OF 'scorialaw14.OpsValid'. -/
def opsValidCard : Claim7 := { stood := { row := opsValidRow, standIns := [], harness := (true, "f8426b7fc6766a6e74f88e9aa9dc198fb366c28c0f98f7ac27a34a6476a3022d"), looks := false }, kinds := [], alts := [], laidByText := true, laidKinds := [.data, .data, .pinned], laidTests := true, laidLooks := .later }
def OpsValidCardSaid : Prop := Claim7.holds Tryz.pinned (.plain (OpenSpec.ofChange opsValidSpec)) opsValidCard

/-- THE TIED CARD OF 'scorialaw14.OpsMatches'. -/
def opsMatchesCard : Claim7 := { stood := { row := opsMatchesRow, standIns := [], harness := (true, "f8426b7fc6766a6e74f88e9aa9dc198fb366c28c0f98f7ac27a34a6476a3022d"), looks := false }, kinds := [], alts := [], laidByText := true, laidKinds := [.data, .data, .pinned], laidTests := true, laidLooks := .later }
def OpsMatchesCardSaid : Prop := Claim7.holds Tryz.pinned (.plain (OpenSpec.ofChange opsMatchesSpec)) opsMatchesCard

/-- THE TIED CARD OF 'scorialaw14.OpsSites'. -/
def opsSitesCard : Claim7 := { stood := { row := opsSitesRow, standIns := [], harness := (true, "f8426b7fc6766a6e74f88e9aa9dc198fb366c28c0f98f7ac27a34a6476a3022d"), looks := false }, kinds := [], alts := [], laidByText := true, laidKinds := [.data, .data, .pinned], laidTests := true, laidLooks := .later }
def OpsSitesCardSaid : Prop := Claim7.holds Tryz.pinned (.plain (OpenSpec.ofChange opsSitesSpec)) opsSitesCard

/-- THE SECOND FORM's CARD OF 'scorialaw14.OpsValid'. -/
def opsValidUptoCard : Claim7 := { stood := { row := opsValidUptoRow, standIns := [], harness := (true, "f8426b7fc6766a6e74f88e9aa9dc198fb366c28c0f98f7ac27a34a6476a3022d"), looks := false }, kinds := [], alts := [], laidByText := true, laidKinds := [.data, .data, .pinned], laidTests := true, laidLooks := .later }
def OpsValidUptoCardSaid : Prop := Claim7.holds Tryz.pinned (.plain (OpenSpec.upto opsValidSpec)) opsValidUptoCard

/-- THE SECOND FORM's CARD OF 'scorialaw14.OpsMatches'. -/
def opsMatchesUptoCard : Claim7 := { stood := { row := opsMatchesUptoRow, standIns := [], harness := (true, "f8426b7fc6766a6e74f88e9aa9dc198fb366c28c0f98f7ac27a34a6476a3022d"), looks := false }, kinds := [], alts := [], laidByText := true, laidKinds := [.data, .data, .pinned], laidTests := true, laidLooks := .later }
def OpsMatchesUptoCardSaid : Prop := Claim7.holds Tryz.pinned (.plain (OpenSpec.upto opsMatchesSpec)) opsMatchesUptoCard

/-- THE SECOND FORM's CARD OF 'scorialaw14.OpsSites'. -/
def opsSitesUptoCard : Claim7 := { stood := { row := opsSitesUptoRow, standIns := [], harness := (true, "f8426b7fc6766a6e74f88e9aa9dc198fb366c28c0f98f7ac27a34a6476a3022d"), looks := false }, kinds := [], alts := [], laidByText := true, laidKinds := [.data, .data, .pinned], laidTests := true, laidLooks := .later }
def OpsSitesUptoCardSaid : Prop := Claim7.holds Tryz.pinned (.plain (OpenSpec.upto opsSitesSpec)) opsSitesUptoCard
end Rows
end Go.Proofs.YtblfpppnkdokdaaGreatDoor
