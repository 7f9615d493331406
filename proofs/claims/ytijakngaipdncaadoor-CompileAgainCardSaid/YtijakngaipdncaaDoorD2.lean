/-
  CompileAgain, the tied card: for all arguments the law returns true and each argument reads as before. Conditions: those of the given row, with its three listed variables tied to the program's text.
-/
import Derived.Test.YtijakngaipdncaaDoorCards
import Derived.Test.YtijakngaipdncaaDoorD1
import Derived.Test.YtijakngaipdncaaDoorTie
import Derived.SevenTiedAt
set_option linter.unusedVariables false
set_option linter.unusedSimpArgs false
namespace Go.Proofs.YtijakngaipdncaaDoor
open Go.AM
attribute [local irreducible] AWp rgnS callR callV effR valR guardR stepR nextR

set_option maxRecDepth 100000
theorem compileAgain_card : Rows.CompileAgainCardSaid :=
  Claim7.holds_tied_plain_at .later [] [.funcs, .widerDeep, .mapped] true (true, "4d6a41d0044e03d3f6f867e93ec29037925e688c547e2dfb212af9de6045dbe9") false
    compileAgain_holds (fun _ h => by cases h) (by kernel_rfl) (fun _ h => by cases h) compileAgain_row_tie rfl ⟨rfl, rfl⟩ (by kernel_rfl) rfl
    (fun f fn hf hfn => by
      obtain rfl : f = 3 := Option.some.inj ((show Tryd.prog.funcNamed "scoria/scorialaw09.CompileAgain" = some 3 by kernel_rfl).symm.trans hf) |>.symm
      obtain rfl : fn = Tryd.f3 := (Option.some.inj (Tryd.func3.symm.trans hfn)).symm
      exact ⟨by kernel_rfl, fun j t ht => by
        rw [Tryd.params3] at ht
        have hm : t ∈ [22, 22] := by simpa using Array.mem_of_getElem? ht
        have hall : ([22, 22].all fun u => !Tryd.prog.wantsStandIn u) = true := by kernel_rfl
        exact (show Tryd.prog.wantsStandIn t = false by simpa using List.all_eq_true.1 hall t hm)⟩)
    (by kernel_rfl)

end Go.Proofs.YtijakngaipdncaaDoor
