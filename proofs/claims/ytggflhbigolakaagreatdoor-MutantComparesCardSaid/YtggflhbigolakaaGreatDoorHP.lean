import Derived.Test.YtggflhbigolakaaGreatDoorHD
set_option linter.unusedVariables false
set_option linter.unusedSimpArgs false
namespace Go.Proofs.YtggflhbigolakaaGreatDoor
open Go.AM
attribute [local irreducible] AWp aY bC bI bU bW aN aS bL
set_option maxRecDepth 100000
theorem AO {rows:Nat→ARow} {fp:List Nat} {a b c:AV} (h:Lend rows fp a b) (e:AM.wk b=c):Lend rows fp a c:=e ▸ h.weak
theorem MD {f:FuncId} {args:List AV} {D:Nat} (hD:D≤14) (h:EP Tryz.prog G0 f args (VN D)):∃ t:T,Pure Tryz.prog G0 f args (.agg (T.enc t))∧T.size t≤16000000000:=by
 obtain ⟨_,⟨c,rfl,hc⟩,hp⟩:=h
 obtain ⟨t,h1,h2⟩:=T.of_node hc
 have h3:=hp.wk
 rw [AM.wk,h1] at h3
 have h4:szN 14≤16000000000:=by decide
 have h5:=sZ hD
 exact ⟨t,h3,by omega⟩
theorem fO (a:Int) (ha:cI a) (n:Nat) (hn:0<n):∃ i:Nat,i<n∧Pure Tryz.prog G0 19 [.int .i64 a,.int .i64 (n:Nat)] (.int .i64 (i:Nat)):=by
 have h:=qU a (n:Int) ha (by omega)
 have hb:=nW a (n:Int) (by omega)
 refine ⟨(jJ a n).toNat,by omega,?_⟩
 rw [Int.toNat_of_nonneg hb.1]
 exact h
section
variable {P:Program} {G:Nat→Option (List AV)} {n:Nat} {K:Option Acc→AS→Prop} {d:Option Tmp} {rest:List POp} {m:Option Acc} {fp:List Nat} {s:AS} {t u:TypeId} {sz by':Nat} {x:AV} {rows:Nat→ARow} {nb mm:Nat} {new:List AV}
end
end Go.Proofs.YtggflhbigolakaaGreatDoor
