/-
 OpsSites, the tied card: for all arguments the law returns true and each argument reads as before. Conditions: those of the given row, with its three listed variables tied to the program's text.
-/
import Derived.Test.YtblfpppnkdokdaaGreatDoorCards
import Derived.Test.YtblfpppnkdokdaaGreatDoorD1
import Derived.Test.YtblfpppnkdokdaaGreatDoorTie
import Derived.SevenTiedAt
set_option linter.unusedVariables false
set_option linter.unusedSimpArgs false
namespace Go.Proofs.YtblfpppnkdokdaaGreatDoor
open Go.AM
attribute [local irreducible] AWp aR aV bI bN bR aO aQ bK

set_option maxRecDepth 100000
theorem opsSites_card : Rows.OpsSitesCardSaid :=
 Claim7.holds_tied_plain_at .later [] [.data, .data, .pinned] true (true, "f8426b7fc6766a6e74f88e9aa9dc198fb366c28c0f98f7ac27a34a6476a3022d") false
  tO (fun _ h => by cases h) (by kernel_rfl) (fun _ h => by cases h) opsSites_row_tie rfl ⟨rfl, rfl⟩ (by kernel_rfl) rfl
  (fun f fn hf hfn => by
   obtain rfl : f = 5 := Option.some.inj ((show Tryz.prog.funcNamed "scoria/scorialaw14.OpsSites" = some 5 by kernel_rfl).symm.trans hf) |>.symm
   obtain rfl : fn = Tryz.f5 := (Option.some.inj (Tryz.func5.symm.trans hfn)).symm
   exact ⟨by kernel_rfl, fun j t ht => by
    rw [Tryz.params5] at ht
    have hm : t ∈ [22, 22, 3, 3, 3] := by simpa using Array.mem_of_getElem? ht
    have hall : ([22, 22, 3, 3, 3].all fun u => !Tryz.prog.wantsStandIn u) = true := by kernel_rfl
    exact (show Tryz.prog.wantsStandIn t = false by simpa using List.all_eq_true.1 hall t hm)⟩)
  (by kernel_rfl)

end Go.Proofs.YtblfpppnkdokdaaGreatDoor
