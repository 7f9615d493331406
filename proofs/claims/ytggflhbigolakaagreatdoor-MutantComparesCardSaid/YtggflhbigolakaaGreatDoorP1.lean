import Derived.Test.YtggflhbigolakaaGreatDoorAE
import Derived.Test.YtggflhbigolakaaGreatDoorM1
import Derived.Test.YtggflhbigolakaaGreatDoorT0
import Derived.Test.YtggflhbigolakaaGreatDoorTypes
import Derived.Test.YtggflhbigolakaaGreatDoorN4
import Derived.Test.YtggflhbigolakaaGreatDoorV0
import Derived.Test.YtggflhbigolakaaGreatDoorHP
set_option linter.unusedVariables false
set_option linter.unusedSimpArgs false
namespace Go.Proofs.YtggflhbigolakaaGreatDoor
open Go.AM
attribute [local irreducible] AWp aY bC bI bU bW aN aS bL
set_option maxRecDepth 100000
section
variable {P:Program} {G:Nat→Option (List AV)} {n:Nat} {K:Option Acc→AS→Prop} {d:Option Tmp} {rest:List POp} {m:Option Acc} {s:AS} {f:FuncId} {args:List AV} {fp:List Nat} {eff:Eff}
theorem dW (h:dH P G f args s.row fp eff) (hk:aY P G n K rest (adv m fp (eff.wr.map (·.1))) ((s.wr eff.wr).put d eff.val)):bC P G n K d rest m s f args:=by
 unfold bC
 exact ⟨_,_,h,hk⟩
end
theorem UF:Pure Tryz.prog G0 68 [b9 []] (b9 []):=by
 refine aU hG0 Tryz.func68 rfl (by kernel_rfl) (by simp [Tryz.ntmps68]) (by simp [inL,inR,eW]) (by simp [eW]) ?_
 simp only [Tryz.ntmps68,aH,Nat.reduceAdd]
 repeat' (first|(refine u'S ?_;simp only [wS,simprocAttr,b9,List.map_nil,List.isEmpty_nil,Bool.not_true])|refine u'Q fun _ _=>?_|refine aV ?_|refine aR (fun hg=>?_) fun hg=>?_|fail)
 refine ⟨?_,?_⟩<;>repeat' (first|(refine u'S ?_;simp only [wS,simprocAttr])|refine u'Q fun _ _=>?_|refine aV ?_|refine aR (fun hg=>?_) fun hg=>?_|fail)
 ·refine aB rfl ?_
  simp only [wS,simprocAttr]
  rfl
 ·refine mO (sz:=1) (by':=8) (new:=[]) (by kernel_rfl) (by simp) (by simp [cJ]) (by simp) ?_
  simp only [wS,simprocAttr]
  repeat' (first|(refine u'S ?_;simp only [wS,simprocAttr])|refine u'Q fun _ _=>?_|refine aV ?_|refine aR (fun hg=>?_) fun hg=>?_|fail)
  refine aB rfl ?_
  simp only [wS,simprocAttr]
  rfl
def R0 (ps:List (List Int)):ARow:=.cells 0 [gD [] 6 1 (PE ps)]
end Go.Proofs.YtggflhbigolakaaGreatDoor
set_option maxRecDepth 100000
namespace Go.Proofs.YtggflhbigolakaaGreatDoor
open Go.AM
theorem D1 {f:FuncId} {a c:List AV} {res:AV} (h:Pure Tryz.prog G0 f [.agg c] res) (ht:inL aC a=true) (e:wkL a=c):Pure Tryz.prog G0 f [.agg a] res:=
 h.lend hG0 (.cons (AO (.same (by simpa only [inR] using ht)) (by rw [AM.wk,e])) .nil)
end Go.Proofs.YtggflhbigolakaaGreatDoor
