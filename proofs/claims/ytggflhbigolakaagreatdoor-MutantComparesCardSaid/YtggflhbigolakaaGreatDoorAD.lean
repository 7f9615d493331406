import Derived.Test.YtggflhbigolakaaGreatDoorAC
import Derived.ProofKit
import Derived.SizedLaws
import Derived.OpenShut
import Derived.LaidMore
import Derived.LaidHandle
import Derived.LaidSub
import Derived.WideKeyMaps
set_option linter.unusedVariables false
set_option linter.unusedSimpArgs false
namespace Go.AM
open Go.WideShapes Go.ChangeShapes Go.ChangeAt Go.RowKit
def E0 (W:World):En:=⟨W,fun b=>b<W.heap.size,fun _=>0,fun _=>.none⟩
theorem H6 {P:Program} {G:Nat→Option (List AV)} {f:FuncId} {avs:List AV} {us:List Value} {W:World} (hp:Pure P G f avs (.bool true)) (hi:Inv G (E0 W)) (hr:RelL (E0 W) avs us):
  Calls P f us.toArray W fun e W'=>e=.returned (.bool true)∧Below W.heap.size W W':=by
 obtain ⟨_,hc⟩:=hp
 obtain ⟨_,_,h⟩:=hc fun _=>.none
 refine (h (E0 W) us hi (by simp) hr).mono fun e w' ⟨v,E',h1,h2,h3,h4,_,_⟩=>?_
 simp only [Rel] at h3
 subst h3 h1 h2
 exact ⟨rfl,⟨h4.os,h4.tape,h4.output,h4.sz,fun k hk=>(h4.out k hk fun r hr=>by cases hr).1⟩⟩
theorem A6 {W:World} {n:Int}:Rel (E0 W) (.int .i64 n) (.int .i64 n):=by simp only [Rel]
section
variable {H:Type}
variable {enc:TypeId × Value→H} {P:Program} {W:World} {held:Bool} {fnD:H→Option FuncId}
theorem VP {b o n:Nat} {cs:List Value} {spot:Option _} (h:W.cells? 0 ⟨b,o,spot⟩ n=some cs):cs.length=n∧∀ j u,cs[j]? =some u→W.cell? ((⟨b,o,spot⟩:Addr).add j)=some u:=by
 unfold World.cells? at h
 rw [if_pos (Nat.zero_le _)] at h
 have hl:=mapM_some_length h
 simp only [List.length_range] at hl
 refine ⟨hl,fun j u hj=>?_⟩
 have:=mapM_some_get h j j (List.getElem?_range (by have:=(List.getElem?_eq_some_iff.1 hj).1;omega))
 rw [this,hj]
end
theorem pL {G:Nat→Option (List AV)} {W:World} (h:∀ g cs,G g=some cs→∃ vs,g<W.heap.size∧RelL (E0 W) cs vs∧CellsAt W g 0 vs):Inv G (E0 W):=by
 refine ⟨fun r=>(by simp [RowOK,E0]),fun r r' h=>(by cases h),fun b h=>h,fun g cs hg=>h g cs hg⟩
end Go.AM
