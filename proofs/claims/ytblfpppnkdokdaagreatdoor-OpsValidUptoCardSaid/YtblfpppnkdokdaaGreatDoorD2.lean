/-
  OpsValid, the second form's tied card: for all arguments that hold together at most 1048576 values and letters the law returns true and each argument reads as before. Conditions: those of the given row, with its three listed variables tied to the program's text.
-/
import Derived.Test.YtblfpppnkdokdaaGreatDoorCards
import Derived.Test.YtblfpppnkdokdaaGreatDoorD1
import Derived.Test.YtblfpppnkdokdaaGreatDoorTie
import Derived.SevenTiedAt
set_option linter.unusedVariables false
set_option linter.unusedSimpArgs false
namespace Go.Proofs.YtblfpppnkdokdaaGreatDoor
open Go.AM
attribute [local irreducible] AWp rgnS callR callV effR valR guardR stepR nextR

set_option maxRecDepth 100000
theorem opsValid_card : Rows.OpsValidUptoCardSaid :=
  Claim7.holds_tied_plain_at .later [] _ _ _ _ opsValid_holds (fun _ h => by cases h) (by kernel_rfl) (fun _ h => by cases h) opsValidUpto_row_tie rfl ⟨rfl, rfl⟩ (by kernel_rfl) rfl
    (fun f fn hf hfn => by
      obtain rfl : f = 3 := Option.some.inj ((show Tryz.prog.funcNamed "scoria/scorialaw14.OpsValid" = some 3 by kernel_rfl).symm.trans hf) |>.symm
      obtain rfl : fn = Tryz.f3 := (Option.some.inj (Tryz.func3.symm.trans hfn)).symm
      exact ⟨by kernel_rfl, fun j t ht => by
        rw [Tryz.params3] at ht
        have hm : t ∈ [22, 22, 22, 3, 3, 3, 27] := by simpa using Array.mem_of_getElem? ht
        have hall : ([22, 22, 22, 3, 3, 3, 27].all fun u => !Tryz.prog.wantsStandIn u) = true := by kernel_rfl
        exact (show Tryz.prog.wantsStandIn t = false by simpa using List.all_eq_true.1 hall t hm)⟩)
    (by kernel_rfl)

end Go.Proofs.YtblfpppnkdokdaaGreatDoor
