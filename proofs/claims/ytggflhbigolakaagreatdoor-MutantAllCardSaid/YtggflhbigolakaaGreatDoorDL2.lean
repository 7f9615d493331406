/-
 MutantAll, the tied card: for all arguments the law returns true and each argument reads as before. Conditions: those of the given row, with its listed variables tied to the program's text.
-/
import Derived.Test.YtggflhbigolakaaGreatDoorCards
import Derived.Test.YtggflhbigolakaaGreatDoorFD
import Derived.Test.YtggflhbigolakaaGreatDoorTie
import Derived.SevenTiedAt
namespace Go.Proofs.YtggflhbigolakaaGreatDoor
open Go.AM
attribute [local irreducible] cG bG bI bL bW bZ aQ aV bN

set_option maxRecDepth 100000
theorem mutantAll_card:Rows.MutantAllCardSaid:=
 Claim7.holds_tied_plain_at .later [] [.data,.pinned] true (true, "da4bda1896b641c872a33b6ce03967a107b81d59be84e65975303fffd38c5c0f") false
  wA (fun _ h=>by cases h) (by kernel_rfl) (fun _ h=>by cases h) mutantAll_row_tie rfl ⟨rfl,rfl⟩ (by kernel_rfl) rfl
  (fun f fn hf hfn=>by
   obtain rfl:f=5:=ir ((show Tryz.prog.funcNamed "scoria/scorialaw15.MutantAll"=some 5 by kernel_rfl).symm.trans hf) |>.symm
   obtain rfl:fn=Tryz.f5:=(ir (Tryz.func5.symm.trans hfn)).symm
   exact ⟨by kernel_rfl,fun j t ht=>by
    rw [Tryz.params5] at ht
    have hm:t∈[22,22,3]:=by simpa using Array.mem_of_getElem? ht
    have hall:([22,22,3].all fun u=> !Tryz.prog.wantsStandIn u)=true:=by kernel_rfl
    exact (show Tryz.prog.wantsStandIn t=false by simpa using cl.1 hall t hm)⟩)
  (by kernel_rfl)

end Go.Proofs.YtggflhbigolakaaGreatDoor
