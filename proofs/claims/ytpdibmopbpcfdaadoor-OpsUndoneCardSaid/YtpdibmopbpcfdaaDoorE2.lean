/-
  OpsUndone, the tied card: for all arguments the law returns true and each argument reads as before. Conditions: those of the given row, with its three listed variables tied to the program's text.
-/
import Derived.Test.YtpdibmopbpcfdaaDoorCards
import Derived.Test.YtpdibmopbpcfdaaDoorE1
import Derived.Test.YtpdibmopbpcfdaaDoorTie
import Derived.SevenTiedAt
set_option linter.unusedVariables false
set_option linter.unusedSimpArgs false
namespace Go.Proofs.YtpdibmopbpcfdaaDoor
open Go.AM

set_option maxRecDepth 100000
theorem opsUndone_card : Rows.OpsUndoneCardSaid :=
  Claim7.holds_tied_plain_at .later [] [.data, .data, .pinned] true (true, "e3c0cb9198b595cf13fc772155a3bdb7a92c583c28b43a3f5542151cbe5d2111") false
    opsUndone_holds (fun _ h => by cases h) (by kernel_rfl) (fun _ h => by cases h) opsUndone_row_tie rfl ⟨rfl, rfl⟩ (by kernel_rfl) rfl
    (fun f fn hf hfn => by
      obtain rfl : f = 4 := Option.some.inj ((show Tryd.prog.funcNamed "scoria/scorialaw14.OpsUndone" = some 4 by kernel_rfl).symm.trans hf) |>.symm
      obtain rfl : fn = Tryd.f4 := (Option.some.inj (Tryd.func4.symm.trans hfn)).symm
      exact ⟨by kernel_rfl, fun j t ht => by
        rw [Tryd.params4] at ht
        have hm : t ∈ [22, 22] := by simpa using Array.mem_of_getElem? ht
        have hall : ([22, 22].all fun u => !Tryd.prog.wantsStandIn u) = true := by kernel_rfl
        exact (show Tryd.prog.wantsStandIn t = false by simpa using List.all_eq_true.1 hall t hm)⟩)
    (by kernel_rfl)

end Go.Proofs.YtpdibmopbpcfdaaDoor
