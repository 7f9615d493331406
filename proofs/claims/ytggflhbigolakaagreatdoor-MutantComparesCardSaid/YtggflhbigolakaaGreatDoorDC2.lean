/-
 MutantCompares, the tied card: for all arguments the law returns true and each argument reads as before. Conditions: those of the given row, with its listed variables tied to the program's text.
-/
import Derived.Test.YtggflhbigolakaaGreatDoorCards
import Derived.Test.YtggflhbigolakaaGreatDoorDC1
import Derived.Test.YtggflhbigolakaaGreatDoorTie
import Derived.SevenTiedAt
set_option linter.unusedVariables false
set_option linter.unusedSimpArgs false
namespace Go.Proofs.YtggflhbigolakaaGreatDoor
open Go.AM
attribute [local irreducible] AWp aY bC bI bU bW aN aS bL

set_option maxRecDepth 100000
theorem mutantCompares_card:Rows.MutantComparesCardSaid:=
 Claim7.holds_tied_plain_at .later [] [.data,.pinned] true (true, "da4bda1896b641c872a33b6ce03967a107b81d59be84e65975303fffd38c5c0f") false
  VJ (fun _ h=>by cases h) (by kernel_rfl) (fun _ h=>by cases h) mutantCompares_row_tie rfl ⟨rfl,rfl⟩ (by kernel_rfl) rfl
  (fun f fn hf hfn=>by
   obtain rfl:f=4:=Option.some.inj ((show Tryz.prog.funcNamed "scoria/scorialaw15.MutantCompares"=some 4 by kernel_rfl).symm.trans hf) |>.symm
   obtain rfl:fn=Tryz.f4:=(Option.some.inj (Tryz.func4.symm.trans hfn)).symm
   exact ⟨by kernel_rfl,fun j t ht=>by
    rw [Tryz.params4] at ht
    have hm:t∈[22,22,22,3,3,31]:=by simpa using Array.mem_of_getElem? ht
    have hall:([22,22,22,3,3,31].all fun u=> !Tryz.prog.wantsStandIn u)=true:=by kernel_rfl
    exact (show Tryz.prog.wantsStandIn t=false by simpa using List.all_eq_true.1 hall t hm)⟩)
  (by kernel_rfl)

end Go.Proofs.YtggflhbigolakaaGreatDoor
