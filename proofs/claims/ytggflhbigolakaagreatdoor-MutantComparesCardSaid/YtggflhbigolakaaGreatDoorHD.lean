import Derived.Test.YtggflhbigolakaaGreatDoorHS
import Derived.Test.YtggflhbigolakaaGreatDoorT0
set_option linter.unusedVariables false
set_option linter.unusedSimpArgs false
namespace Go.Proofs.YtggflhbigolakaaGreatDoor
open Go.AM
attribute [local irreducible] AWp aY bC bI bU bW aN aS bL
set_option maxRecDepth 100000
theorem T.sizes_set:∀ {es:List T} {j:Nat} {e u:T},es[j]? =some e→T.sizes (es.set j u)+T.size e=T.sizes es+T.size u
 | [],j,e,u,h=>by simp at h
 |x::es,0,e,u,h=>by
  obtain rfl:x=e:=by simpa using h
  simp only [List.set_cons_zero,T.sizes];omega
 |x::es,j+1,e,u,h=>by
  have:=T.sizes_set (es:=es) (j:=j) (e:=e) (u:=u) (by simpa using h)
  simp only [List.set_cons_succ,T.sizes];omega
end Go.Proofs.YtggflhbigolakaaGreatDoor
