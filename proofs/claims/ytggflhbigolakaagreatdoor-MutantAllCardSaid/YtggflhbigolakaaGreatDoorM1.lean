import Derived.Test.YtggflhbigolakaaGreatDoorAH
import Derived.Test.YtggflhbigolakaaGreatDoorAC
import Derived.ProofKit
import Derived.SizedLaws
import Derived.OpenShut
import Derived.LaidMore
import Derived.LaidHandle
import Derived.LaidSub
import Derived.WideKeyMaps
import Derived.Test.YtggflhbigolakaaGreatDoorRows
import Derived.Lay
import Derived.Stop.Joined
set_option linter.unusedSimpArgs false
namespace Go.Proofs.YtggflhbigolakaaGreatDoor
open Go.AM
attribute [local irreducible] cG bG bI bL bW bZ aQ aV bN
def bR (n:Int):Prop:= -9223372036854775808<=n/\n<=9223372036854775807
def pS (n m:Int):Int:=(if n<0 then -(n+1) else n).tmod m
theorem ED (n m:Int) (hn:bR n) (hm:m≠0):Pure Tryz.prog G0 19 [.int .i64 n,.int .i64 m] (.int .i64 (pS n m)):=by
 obtain ⟨h1,h2⟩:=hn
 refine aL bX Tryz.func19 rfl (by kernel_rfl) (by simp [Tryz.ntmps19]) (by simp [aP,aI]) (by simp [aI]) ?_
 simp only [Tryz.ntmps19,aK,Nat.reduceAdd]
 refine aF
 refine ⟨fun h=>?_,fun h=>?_⟩
 .simp at h
  have e1:IntKind.i64.wrap (n+1)=n+1:=dP (by omega) (by omega)
  have e2:IntKind.i64.wrap (0 - (n+1))= -(n+1):=by rw [dP (by omega) (by omega)];omega
  refine aR (eB e1 e2 hm)
  refine aD rfl ?_
  simp only [Z2,if_true,if_false]
  rw [pS,if_pos h]
 .simp at h
  refine aR hm
  refine aD rfl ?_
  simp only [Z2,if_true,if_false]
  rw [pS,if_neg (by omega)]
theorem BU (n m:Int) (hm:0<m):0<=pS n m/\pS n m<m:=by
 unfold pS
 split
 .exact ⟨Int.tmod_nonneg _ (by omega),Int.tmod_lt_of_pos _ hm⟩
 .exact ⟨Int.tmod_nonneg _ (by omega),Int.tmod_lt_of_pos _ hm⟩
def cY (l:List Int):AV:=.sl false (l.map fun n=>[.int .i64 n])
theorem bD:∀ (l:List Int),cQ aE (l.map fun n=>[AV.int .i64 n])=true
 | []=>by simp [cQ]
 |x::l=>by simp [cQ,aP,aI,bD l]
theorem fP (l:List Int):aI aE (cY l)=true:=by simp only [cY,aI];exact bD l
def sG (l:List Int) (i m:Int):Int:=if 0<=i then (match l[i.toNat]? with|some x=>pS x m|none=>0) else 0
theorem B1 (l:List Int) (i m:Int) (hm:0<m):0<=sG l i m/\sG l i m<m:=by
 unfold sG
 split
 .split
  .exact BU _ _ hm
  .omega
 .omega
theorem v7 (l:List Int) (i m:Int) (hl:∀ x∈l,bR x) (hm:m≠0):Pure Tryz.prog G0 70 [cY l,.int .i64 i,.int .i64 m] (.int .i64 (sG l i m)):=by
 refine aL bX Tryz.func70 rfl (by kernel_rfl) (by simp [Tryz.ntmps70]) (by simp [aP,aI,fP]) (by simp [aI]) ?_
 simp only [Tryz.ntmps70,aK,Nat.reduceAdd,cY]
 refine aF
 .simp at hg
  refine aD rfl ?_
  simp only [Z2,if_true,if_false]
  rw [sG,if_neg (by omega)]
 .simp at hg
  refine ⟨fun h=>?_,fun h=>?_⟩
  .simp at h
   refine aF
   refine aD rfl ?_
   simp only [Z2,if_true,if_false]
   rw [sG,if_pos hg,d5 (by omega)]
  .simp at h
   obtain ⟨k,rfl⟩:∃ k:Nat,i=k:=⟨i.toNat,(dc hg).symm⟩
   have hlt:k<l.length:=by omega
   obtain ⟨x,hx⟩:∃ v,l[k]? =some v:=⟨_,ah hlt⟩
   refine aR hx
   refine bO bX (ED x m (hl x (aj hx)) hm) ?_
   refine aA
   refine aF
   refine aD rfl ?_
   simp only [Z2,if_true,if_false]
   rw [sG,if_pos hg,ax,hx]
end Go.Proofs.YtggflhbigolakaaGreatDoor
namespace Go.AM
open Go.WideShapes Go.ChangeShapes Go.ChangeAt Go.RowKit
def E0 (W:World):En:=⟨W,fun b=>b<W.heap.size,fun _=>0,fun _=>.none⟩
theorem YJ {P:Program} {G:Nat->Option (List AV)} {f:FuncId} {avs:List AV} {us:List Value} {W:World} (hp:Pure P G f avs (.bool true)) (hi:Inv G (E0 W)) (hr:RelL (E0 W) avs us):
  Calls P f us.toArray W fun e W'=>e=.returned (.bool true)/\Below W.heap.size W W':=by
 obtain ⟨_,hc⟩:=hp
 obtain ⟨_,_,h⟩:=hc fun _=>.none
 refine (h (E0 W) us hi (by simp) hr).mono fun e w' ⟨v,E',h1,h2,h3,h4,_,_⟩=>?_
 simp only [Rel] at h3
 subst h3 h1 h2
 exact ⟨rfl,⟨h4.os,h4.tape,h4.output,h4.sz,fun k hk=>(h4.out k hk fun r hr=>by cases hr).1⟩⟩
theorem XY {W:World} {n:Int}:Rel (E0 W) (.int .i64 n) (.int .i64 n):=by simp only [Rel]
section
variable {H:Type}
variable {enc:TypeId × Value->H} {P:Program} {W:World} {held:Bool} {fnD:H->Option FuncId}
end
theorem GC {G:Nat->Option (List AV)} {W:World} (h:∀ g cs,G g=some cs->∃ vs,g<W.heap.size/\RelL (E0 W) cs vs/\CellsAt W g 0 vs):Inv G (E0 W):=by
 refine ⟨fun r=>(by simp [RowOK,E0]),fun r r' h=>(by cases h),fun b h=>h,fun g cs hg=>h g cs hg⟩
end Go.AM
namespace Go.Proofs.YtggflhbigolakaaGreatDoor
open Go.AM
attribute [local irreducible] cG bG bI bL bW bZ aQ aV bN
open Go.ChangeShapes Go.WideShapes Go.ChangeAt Go.RowKit
set_option maxRecDepth 100000
theorem aCZ:ownKnob Tryz.prog.godebug=none:=by kernel_rfl
theorem Tryz.laidOut:laidOutB Tryz.prog=true:=by kernel_rfl
theorem Tryz.cells3:Tryz.prog.cellsOf 3=1:=by kernel_rfl
theorem Tryz.bytes3:Tryz.prog.bytesOf 3=8:=by kernel_rfl
theorem xD {H:Type} {enc:TypeId × Value->H} {P:Program} {w:World} {base:Nat} {spare:Nat->Bool} {held:Bool}:DataW.TrodAll enc P w base spare held [] [] [] []:=by simp [DataW.TrodAll]
theorem HI {n:Int} (h:(Lit.int .i64 n).wf=true):bR n:=by
 have h1:IntKind.i64.min= -9223372036854775808:=rfl
 have h2:IntKind.i64.max=9223372036854775807:=rfl
 simp only [Lit.wf,ae,decide_eq_true_eq] at h
 unfold bR
 omega
theorem IU {H:Type} {enc:TypeId × Value->H} {W:World} {base j:Nat} {v:Value} {d:DataW H} {p:List MemPlace} {ts:List TypeId} {ds:List (DataW H)} (hsz:(DataW.weightsEach Tryz.prog ts ds).all (·<=reachBytes)=true) (ht:ts[j]? =some 22) (hd:ds[j]? =some d)
  (hv:Value.okWide Tryz.prog W .any base 22 v) (h0:DataW.Trod enc Tryz.prog W 0 (fun _=>true) true 22 v d p) (hlt:∀ x∈p,x.block<W.heap.size):
  ∃ l:List Int,Rel (E0 W) (cY l) v/\(∀ x∈l,bR x)/\l.length<=4611686018427387904:=by
 obtain ⟨a0,len,cap,rfl⟩:=okWide_slice Tryz.underlying22 hv
 obtain ⟨fuel,hf⟩:=h0
 rcases open_ints Tryz.underlying22 Tryz.underlying3 Tryz.cells3 hf with ⟨hcs,hx⟩|⟨a,len',cap',zs,hcs,_,hl,hm,hz,hx,hcell,hwz⟩
 .simp [Value.cells] at hcs
  obtain ⟨rfl,rfl,rfl⟩:=hcs
  refine ⟨[],?_,by simp,by simp⟩
  simp only [cY,bu,Rel]
  exact ⟨none,0,rfl,by simp,by simp [maxLen],by simp,by simp,0,0,1,.inl trivial,by simp [RelE]⟩
 .simp [Value.cells] at hcs
  obtain ⟨rfl,rfl,rfl⟩:=hcs
  simp only [db] at hx
  obtain ⟨rfl,rfl⟩:=hx
  simp only [if_true] at hz
  have hreach:cap*8<=140737488351232:=by
   have:=sized_slice hsz (j:=j) (t:=22) (e:=3) ht hd Tryz.underlying22
   rw [Tryz.bytes3] at this
   simp only [lits,bp,cr,ik,reachBytes] at this
   omega
  have hlen:(zs.take len).length=len:=by rw [cr];omega
  refine ⟨zs.take len,?_,fun x hx=>HI (hwz x (fx hx)),by omega⟩
  simp only [cY,Rel,bp,hlen]
  refine ⟨some a,cap,rfl,hl,hm,by simp,by simp,a.block,a.off,1,?_,?_⟩
  .by_cases h0:len=0
   .subst h0;exact .inl (by simp)
   .right
    obtain ⟨b,off,spot⟩:=a
    have hspot:spot=none:=by simpa [Addr.add] using World.cell?_spot (hcell 0 (by omega))
    subst hspot
    exact ⟨rfl,hlt (.cell b off) (MemPlace.mem_row.2 ⟨0,by omega,by simp⟩)⟩
  .refine RelE.mk fun i e he=>?_
   rw [bh] at he
   obtain ⟨n,hn,rfl⟩:=bw.1 he
   have hil:i<len:=by
    have:=(aq.1 hn).1
    omega
   rw [ep,if_pos hil] at hn
   have hc:=hcell i (by omega)
   rw [bc,hn] at hc
   obtain ⟨b,off,spot⟩:=a
   have hspot:spot=none:=by simpa [Addr.add] using World.cell?_spot (hcell 0 (by omega))
   subst hspot
   rw [add_plain] at hc
   refine ⟨rfl,[.int .i64 n],by simp [RelL,Rel],fun q u hq=>?_,by simp [Value.oneCell']⟩
   cases q with
   |zero=>
    simp at hq
    subst hq
    simpa [E0] using hc
   |succ q=>simp at hq
end Go.Proofs.YtggflhbigolakaaGreatDoor
