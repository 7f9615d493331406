/-
  CompileWords, the tied card: for all three integers the law returns true and each argument reads as before. Conditions: those of the given row, with its three listed variables tied to the program's text.
-/
import Derived.Test.YtbbgolecnmifpaaDoorCards
import Derived.Test.YtbbgolecnmifpaaDoorD1
import Derived.Test.YtbbgolecnmifpaaDoorTie
import Derived.SevenTiedAt
set_option linter.unusedVariables false
set_option linter.unusedSimpArgs false
namespace Go.Proofs.YtbbgolecnmifpaaDoor
open Go.AM

set_option maxRecDepth 100000
theorem compileWords_card : Rows.CompileWordsCardSaid :=
  Claim7.holds_tied_plain_at .later [] [.funcs, .widerDeep, .mapped] true (true, "47b516ac889e4339b40db6437b221864feb9f201b4b0076e1b7c04342cb0f045") false
    compileWords_holds (fun _ h => by cases h) (by kernel_rfl) (fun _ h => by cases h) compileWords_row_tie rfl ⟨rfl, rfl⟩ (by kernel_rfl) rfl
    (fun f fn hf hfn => by
      obtain rfl : f = 7 := Option.some.inj ((show Tryd.prog.funcNamed "scoria/scorialaw09.CompileWords" = some 7 by kernel_rfl).symm.trans hf) |>.symm
      obtain rfl : fn = Tryd.f7 := (Option.some.inj (Tryd.func7.symm.trans hfn)).symm
      exact ⟨by kernel_rfl, fun j t ht => by
        rw [Tryd.params7] at ht
        have hm : t ∈ [3, 3, 3] := by simpa using Array.mem_of_getElem? ht
        have hall : ([3, 3, 3].all fun u => !Tryd.prog.wantsStandIn u) = true := by kernel_rfl
        exact (show Tryd.prog.wantsStandIn t = false by simpa using List.all_eq_true.1 hall t hm)⟩)
    (by kernel_rfl)

end Go.Proofs.YtbbgolecnmifpaaDoor
