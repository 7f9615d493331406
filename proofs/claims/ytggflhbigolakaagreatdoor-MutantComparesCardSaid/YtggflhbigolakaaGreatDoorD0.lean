import Derived.Test.YtggflhbigolakaaGreatDoorAD
import Derived.Test.YtggflhbigolakaaGreatDoorM1
import Derived.Test.YtggflhbigolakaaGreatDoorRows
import Derived.ProofKit
import Derived.SizedLaws
import Derived.OpenShut
import Derived.LaidMore
import Derived.Lay
import Derived.Stop.Joined
set_option linter.unusedVariables false
set_option linter.unusedSimpArgs false
namespace Go.Proofs.YtggflhbigolakaaGreatDoor
open Go.AM
attribute [local irreducible] AWp aY bC bI bU bW aN aS bL
open Go.ChangeShapes Go.WideShapes Go.ChangeAt Go.RowKit
set_option maxRecDepth 100000
theorem RN:ownKnob Tryz.prog.godebug=none:=by kernel_rfl
theorem Tryz.laidOut:laidOutB Tryz.prog=true:=by kernel_rfl
theorem Tryz.cells3:Tryz.prog.cellsOf 3=1:=by kernel_rfl
theorem Tryz.bytes3:Tryz.prog.bytesOf 3=8:=by kernel_rfl
theorem lN {H:Type} {enc:TypeId × Value→H} {P:Program} {w:World} {base:Nat} {spare:Nat→Bool} {held:Bool}:DataW.TrodAll enc P w base spare held [] [] [] []:=by simp [DataW.TrodAll]
theorem oR {n:Int} (h:(Lit.int .i64 n).wf=true):cI n:=by
 have h1:IntKind.i64.min= -9223372036854775808:=rfl
 have h2:IntKind.i64.max=9223372036854775807:=rfl
 simp only [Lit.wf,Bool.and_eq_true,decide_eq_true_eq] at h
 unfold cI
 omega
theorem jQ {H:Type} {enc:TypeId × Value→H} {W:World} {base j:Nat} {v:Value} {d:DataW H} {p:List MemPlace} {ts:List TypeId} {ds:List (DataW H)} (hsz:(DataW.weightsEach Tryz.prog ts ds).all (·≤reachBytes)=true) (ht:ts[j]? =some 22) (hd:ds[j]? =some d)
  (hv:Value.okWide Tryz.prog W .any base 22 v) (h0:DataW.Trod enc Tryz.prog W 0 (fun _=>true) true 22 v d p) (hlt:∀ x∈p,x.block<W.heap.size):
  ∃ l:List Int,Rel (E0 W) (b9 l) v∧(∀ x∈l,cI x)∧l.length≤4611686018427387904:=by
 obtain ⟨a0,len,cap,rfl⟩:=okWide_slice Tryz.underlying22 hv
 obtain ⟨fuel,hf⟩:=h0
 rcases open_ints Tryz.underlying22 Tryz.underlying3 Tryz.cells3 hf with ⟨hcs,hx⟩|⟨a,len',cap',zs,hcs,_,hl,hm,hz,hx,hcell,hwz⟩
 ·simp [Value.cells] at hcs
  obtain ⟨rfl,rfl,rfl⟩:=hcs
  refine ⟨[],?_,by simp,by simp⟩
  simp only [b9,List.map_nil,Rel]
  exact ⟨none,0,rfl,by simp,by simp [maxLen],by simp,by simp,0,0,1,.inl trivial,by simp [RelE]⟩
 ·simp [Value.cells] at hcs
  obtain ⟨rfl,rfl,rfl⟩:=hcs
  simp only [Prod.mk.injEq] at hx
  obtain ⟨rfl,rfl⟩:=hx
  simp only [if_true] at hz
  have hreach:cap*8≤140737488351232:=by
   have:=sized_slice hsz (j:=j) (t:=22) (e:=3) ht hd Tryz.underlying22
   rw [Tryz.bytes3] at this
   simp only [lits,List.length_map,List.length_take,List.length_drop,reachBytes] at this
   omega
  have hlen:(zs.take len).length=len:=by rw [List.length_take];omega
  refine ⟨zs.take len,?_,fun x hx=>oR (hwz x (List.mem_of_mem_take hx)),by omega⟩
  simp only [b9,Rel,List.length_map,hlen]
  refine ⟨some a,cap,rfl,hl,hm,by simp,by simp,a.block,a.off,1,?_,?_⟩
  ·by_cases h0:len=0
   ·subst h0;exact .inl (by simp)
   ·right
    obtain ⟨b,off,spot⟩:=a
    have hspot:spot=none:=by simpa [Addr.add] using World.cell?_spot (hcell 0 (by omega))
    subst hspot
    exact ⟨rfl,hlt (.cell b off) (MemPlace.mem_row.2 ⟨0,by omega,by simp⟩)⟩
  ·refine RelE.mk fun i e he=>?_
   rw [List.getElem?_map] at he
   obtain ⟨n,hn,rfl⟩:=Option.map_eq_some_iff.1 he
   have hil:i<len:=by
    have:=(List.getElem?_eq_some_iff.1 hn).1
    omega
   rw [List.getElem?_take,if_pos hil] at hn
   have hc:=hcell i (by omega)
   rw [List.getD_eq_getElem?_getD,hn] at hc
   obtain ⟨b,off,spot⟩:=a
   have hspot:spot=none:=by simpa [Addr.add] using World.cell?_spot (hcell 0 (by omega))
   subst hspot
   rw [add_plain] at hc
   refine ⟨rfl,[.int .i64 n],by simp [RelL,Rel],fun q u hq=>?_,by simp [Value.oneCell']⟩
   cases q with
   |zero=>
    simp at hq
    subst hq
    simpa [E0] using hc
   |succ q=>simp at hq
end Go.Proofs.YtggflhbigolakaaGreatDoor
