/-
  OpsStandard, the tied card: for every integer the law returns true and the argument reads as before. Conditions: those of the given row, with its three listed variables tied to the program's text.
-/
import Derived.Test.YthlhepgajgmhgaaDoorCards
import Derived.Test.YthlhepgajgmhgaaDoorD1
import Derived.Test.YthlhepgajgmhgaaDoorTie
import Derived.SevenTiedAt
set_option linter.unusedVariables false
set_option linter.unusedSimpArgs false
namespace Go.Proofs.YthlhepgajgmhgaaDoor
open Go.AM

set_option maxRecDepth 100000
theorem opsStandard_card : Rows.OpsStandardCardSaid :=
  Claim7.holds_tied_plain_at .later [] [.data, .data, .pinned] true (true, "1163ee5362f0c8e66b380e24a742bc63a1ab4368929da8e983cb3610cb15f9a5") false
    opsStandard_holds (fun _ h => by cases h) (by kernel_rfl) (fun _ h => by cases h) opsStandard_row_tie rfl ⟨rfl, rfl⟩ (by kernel_rfl) rfl
    (fun f fn hf hfn => by
      obtain rfl : f = 3 := Option.some.inj ((show Tryd.prog.funcNamed "scoria/scorialaw14.OpsStandard" = some 3 by kernel_rfl).symm.trans hf) |>.symm
      obtain rfl : fn = Tryd.f3 := (Option.some.inj (Tryd.func3.symm.trans hfn)).symm
      exact ⟨by kernel_rfl, fun j t ht => by
        rw [Tryd.params3] at ht
        have hm : t ∈ [3] := by simpa using Array.mem_of_getElem? ht
        have hall : ([3].all fun u => !Tryd.prog.wantsStandIn u) = true := by kernel_rfl
        exact (show Tryd.prog.wantsStandIn t = false by simpa using List.all_eq_true.1 hall t hm)⟩)
    (by kernel_rfl)

end Go.Proofs.YthlhepgajgmhgaaDoor
