import Derived.Test.YtggflhbigolakaaGreatDoorAE
import Derived.Test.YtggflhbigolakaaGreatDoorM1
import Derived.Test.YtggflhbigolakaaGreatDoorT0
import Derived.Test.YtggflhbigolakaaGreatDoorTypes
import Derived.Test.YtggflhbigolakaaGreatDoorN4
import Derived.Test.YtggflhbigolakaaGreatDoorV0
import Derived.Test.YtggflhbigolakaaGreatDoorHP
set_option linter.unusedVariables false
set_option linter.unusedSimpArgs false
namespace Go.Proofs.YtggflhbigolakaaGreatDoor
open Go.AM
attribute [local irreducible] AWp aY bC bI bU bW aN aS bL
set_option maxRecDepth 100000
section
variable {P:Program} {G:Nat→Option (List AV)} {n:Nat} {K:Option Acc→AS→Prop} {d:Option Tmp} {rest:List POp} {m:Option Acc} {s:AS} {f:FuncId} {args:List AV} {fp:List Nat} {eff:Eff}
theorem dW (h:dH P G f args s.row fp eff) (hk:aY P G n K rest (adv m fp (eff.wr.map (·.1))) ((s.wr eff.wr).put d eff.val)):bC P G n K d rest m s f args:=by
 unfold bC
 exact ⟨_,_,h,hk⟩
end
def R0 (ps:List (List Int)):ARow:=.cells 0 [gD [] 6 1 (PE ps)]
end Go.Proofs.YtggflhbigolakaaGreatDoor
set_option maxRecDepth 100000
namespace Go.Proofs.YtggflhbigolakaaGreatDoor
open Go.AM
theorem D1 {f:FuncId} {a c:List AV} {res:AV} (h:Pure Tryz.prog G0 f [.agg c] res) (ht:inL aC a=true) (e:wkL a=c):Pure Tryz.prog G0 f [.agg a] res:=
 h.lend hG0 (.cons (AO (.same (by simpa only [inR] using ht)) (by rw [AM.wk,e])) .nil)
end Go.Proofs.YtggflhbigolakaaGreatDoor
