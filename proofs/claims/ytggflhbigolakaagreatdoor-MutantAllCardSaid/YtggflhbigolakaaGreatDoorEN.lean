import Derived.Test.YtggflhbigolakaaGreatDoorEM
import Derived.Test.YtggflhbigolakaaGreatDoorUF
set_option linter.unusedSimpArgs false
namespace Go.Proofs.YtggflhbigolakaaGreatDoor
open Go.AM
attribute [local irreducible] cG bG bI bL bW bZ aQ aV bN
set_option maxRecDepth 100000
def oL0:List AV:=[.str ⟨#[112,108,117,115]⟩,.int .i64 9,.int .i64 0,.int .i64 0,.sl true [[.int .i64 28,.int .i64 0,.int .i64 0,.sl true []],[.int .i64 28,.int .i64 1,.int .i64 0,.sl true []]],.int .i64 9,.int .i64 1,.int .i64 0,.sl true [[.int .i64 28,.int .i64 0,.int .i64 0,.sl true []],[.int .i64 28,.int .i64 1,.int .i64 0,.sl true []]],.int .i64 1]
def oL1:List AV:=[.str ⟨#[109,105,110,117,115]⟩,.int .i64 9,.int .i64 1,.int .i64 0,.sl true [[.int .i64 28,.int .i64 0,.int .i64 0,.sl true []],[.int .i64 28,.int .i64 1,.int .i64 0,.sl true []]],.int .i64 9,.int .i64 0,.int .i64 0,.sl true [[.int .i64 28,.int .i64 0,.int .i64 0,.sl true []],[.int .i64 28,.int .i64 1,.int .i64 0,.sl true []]],.int .i64 0]
def oL2:List AV:=[.str ⟨#[108,101,115,115]⟩,.int .i64 9,.int .i64 10,.int .i64 0,.sl true [[.int .i64 28,.int .i64 0,.int .i64 0,.sl true []],[.int .i64 28,.int .i64 1,.int .i64 0,.sl true []]],.int .i64 9,.int .i64 11,.int .i64 0,.sl true [[.int .i64 28,.int .i64 0,.int .i64 0,.sl true []],[.int .i64 28,.int .i64 1,.int .i64 0,.sl true []]],.int .i64 3]
def oL3:List AV:=[.str ⟨#[115,97,109,101]⟩,.int .i64 9,.int .i64 11,.int .i64 0,.sl true [[.int .i64 28,.int .i64 0,.int .i64 0,.sl true []],[.int .i64 28,.int .i64 1,.int .i64 0,.sl true []]],.int .i64 9,.int .i64 10,.int .i64 0,.sl true [[.int .i64 28,.int .i64 0,.int .i64 0,.sl true []],[.int .i64 28,.int .i64 1,.int .i64 0,.sl true []]],.int .i64 2]
def oL4:List AV:=[.str ⟨#[98,111,116,104]⟩,.int .i64 9,.int .i64 12,.int .i64 0,.sl true [[.int .i64 28,.int .i64 0,.int .i64 0,.sl true []],[.int .i64 28,.int .i64 1,.int .i64 0,.sl true []]],.int .i64 9,.int .i64 13,.int .i64 0,.sl true [[.int .i64 28,.int .i64 0,.int .i64 0,.sl true []],[.int .i64 28,.int .i64 1,.int .i64 0,.sl true []]],.int .i64 5]
def oL5:List AV:=[.str ⟨#[115,111,109,101]⟩,.int .i64 9,.int .i64 13,.int .i64 0,.sl true [[.int .i64 28,.int .i64 0,.int .i64 0,.sl true []],[.int .i64 28,.int .i64 1,.int .i64 0,.sl true []]],.int .i64 9,.int .i64 12,.int .i64 0,.sl true [[.int .i64 28,.int .i64 0,.int .i64 0,.sl true []],[.int .i64 28,.int .i64 1,.int .i64 0,.sl true []]],.int .i64 4]
def oL6:List AV:=[.str ⟨#[110,101,103,97,116,101]⟩,.int .i64 17,.int .i64 0,.int .i64 0,.sl true [[.int .i64 28,.int .i64 0,.int .i64 0,.sl true []],[.int .i64 28,.int .i64 1,.int .i64 0,.sl true []],[.int .i64 28,.int .i64 2,.int .i64 0,.sl true []]],.int .i64 17,.int .i64 0,.int .i64 0,.sl true [[.int .i64 10,.int .i64 0,.int .i64 0,.sl true [[.int .i64 28,.int .i64 0,.int .i64 0,.sl true []]]],[.int .i64 28,.int .i64 1,.int .i64 0,.sl true []],[.int .i64 28,.int .i64 2,.int .i64 0,.sl true []]],.int .i64 7]
def oL7:List AV:=[.str ⟨#[97,102,102,105,114,109]⟩,.int .i64 17,.int .i64 0,.int .i64 0,.sl true [[.int .i64 10,.int .i64 0,.int .i64 0,.sl true [[.int .i64 28,.int .i64 0,.int .i64 0,.sl true []]]],[.int .i64 28,.int .i64 1,.int .i64 0,.sl true []],[.int .i64 28,.int .i64 2,.int .i64 0,.sl true []]],.int .i64 17,.int .i64 0,.int .i64 0,.sl true [[.int .i64 28,.int .i64 0,.int .i64 0,.sl true []],[.int .i64 28,.int .i64 1,.int .i64 0,.sl true []],[.int .i64 28,.int .i64 2,.int .i64 0,.sl true []]],.int .i64 6]
def oL8:List AV:=[.str ⟨#[115,119,97,112]⟩,.int .i64 17,.int .i64 0,.int .i64 0,.sl true [[.int .i64 28,.int .i64 0,.int .i64 0,.sl true []],[.int .i64 28,.int .i64 1,.int .i64 0,.sl true []],[.int .i64 28,.int .i64 2,.int .i64 0,.sl true []]],.int .i64 17,.int .i64 0,.int .i64 0,.sl true [[.int .i64 28,.int .i64 0,.int .i64 0,.sl true []],[.int .i64 28,.int .i64 2,.int .i64 0,.sl true []],[.int .i64 28,.int .i64 1,.int .i64 0,.sl true []]],.int .i64 8]
def oL9:List AV:=[.str ⟨#[116,117,114,110]⟩,.int .i64 9,.int .i64 1,.int .i64 0,.sl true [[.int .i64 28,.int .i64 0,.int .i64 0,.sl true []],[.int .i64 28,.int .i64 1,.int .i64 0,.sl true []]],.int .i64 9,.int .i64 1,.int .i64 0,.sl true [[.int .i64 28,.int .i64 1,.int .i64 0,.sl true []],[.int .i64 28,.int .i64 0,.int .i64 0,.sl true []]],.int .i64 9]
def aDd:List AV:=[.str ⟨#[114,105,115,101]⟩,.int .i64 5,.int .i64 0,.int .i64 0,.sl true [],.int .i64 5,.int .i64 1,.int .i64 0,.sl true [],.int .i64 11]
def aDc:List AV:=[.str ⟨#[102,97,108,108]⟩,.int .i64 5,.int .i64 1,.int .i64 0,.sl true [],.int .i64 5,.int .i64 0,.int .i64 0,.sl true [],.int .i64 10]
def aDb:List AV:=[.str ⟨#[111,110,101]⟩,.int .i64 4,.int .i64 0,.int .i64 0,.sl true [],.int .i64 4,.int .i64 1,.int .i64 0,.sl true [],.int .i64 13]
def aDa:List AV:=[.str ⟨#[122,101,114,111]⟩,.int .i64 4,.int .i64 1,.int .i64 0,.sl true [],.int .i64 4,.int .i64 0,.int .i64 0,.sl true [],.int .i64 12]
def aC9:List AV:=[.str ⟨#[116,105,109,101,115]⟩,.int .i64 9,.int .i64 2,.int .i64 0,.sl true [[.int .i64 28,.int .i64 0,.int .i64 0,.sl true []],[.int .i64 28,.int .i64 1,.int .i64 0,.sl true []]],.int .i64 9,.int .i64 3,.int .i64 0,.sl true [[.int .i64 28,.int .i64 0,.int .i64 0,.sl true []],[.int .i64 28,.int .i64 1,.int .i64 0,.sl true []]],.int .i64 15]
def aC8:List AV:=[.str ⟨#[100,105,118,105,100,101]⟩,.int .i64 9,.int .i64 3,.int .i64 0,.sl true [[.int .i64 28,.int .i64 0,.int .i64 0,.sl true []],[.int .i64 28,.int .i64 1,.int .i64 0,.sl true []]],.int .i64 9,.int .i64 2,.int .i64 0,.sl true [[.int .i64 28,.int .i64 0,.int .i64 0,.sl true []],[.int .i64 28,.int .i64 1,.int .i64 0,.sl true []]],.int .i64 14]
def aC7:List AV:=[.str ⟨#[97,110,100]⟩,.int .i64 9,.int .i64 5,.int .i64 0,.sl true [[.int .i64 28,.int .i64 0,.int .i64 0,.sl true []],[.int .i64 28,.int .i64 1,.int .i64 0,.sl true []]],.int .i64 9,.int .i64 6,.int .i64 0,.sl true [[.int .i64 28,.int .i64 0,.int .i64 0,.sl true []],[.int .i64 28,.int .i64 1,.int .i64 0,.sl true []]],.int .i64 17]
def aC6:List AV:=[.str ⟨#[111,114]⟩,.int .i64 9,.int .i64 6,.int .i64 0,.sl true [[.int .i64 28,.int .i64 0,.int .i64 0,.sl true []],[.int .i64 28,.int .i64 1,.int .i64 0,.sl true []]],.int .i64 9,.int .i64 5,.int .i64 0,.sl true [[.int .i64 28,.int .i64 0,.int .i64 0,.sl true []],[.int .i64 28,.int .i64 1,.int .i64 0,.sl true []]],.int .i64 16]
def aC5:List AV:=[.str ⟨#[108,101,102,116]⟩,.int .i64 9,.int .i64 8,.int .i64 0,.sl true [[.int .i64 28,.int .i64 0,.int .i64 0,.sl true []],[.int .i64 28,.int .i64 1,.int .i64 0,.sl true []]],.int .i64 9,.int .i64 9,.int .i64 0,.sl true [[.int .i64 28,.int .i64 0,.int .i64 0,.sl true []],[.int .i64 28,.int .i64 1,.int .i64 0,.sl true []]],.int .i64 19]
def aC4:List AV:=[.str ⟨#[114,105,103,104,116]⟩,.int .i64 9,.int .i64 9,.int .i64 0,.sl true [[.int .i64 28,.int .i64 0,.int .i64 0,.sl true []],[.int .i64 28,.int .i64 1,.int .i64 0,.sl true []]],.int .i64 9,.int .i64 8,.int .i64 0,.sl true [[.int .i64 28,.int .i64 0,.int .i64 0,.sl true []],[.int .i64 28,.int .i64 1,.int .i64 0,.sl true []]],.int .i64 18]
def aC3:List AV:=[.str ⟨#[104,117,115,104]⟩,.int .i64 24,.int .i64 0,.int .i64 0,.sl true [[.int .i64 28,.int .i64 0,.int .i64 0,.sl true []]],.int .i64 25,.int .i64 0,.int .i64 0,.sl true [],.int .i64 (-1)]
def aC2:List AV:=[.str ⟨#[111,110,99,101]⟩,.int .i64 18,.int .i64 0,.int .i64 0,.sl true [[.int .i64 28,.int .i64 0,.int .i64 0,.sl true []],[.int .i64 28,.int .i64 1,.int .i64 0,.sl true []]],.int .i64 17,.int .i64 0,.int .i64 0,.sl true [[.int .i64 28,.int .i64 0,.int .i64 0,.sl true []],[.int .i64 28,.int .i64 1,.int .i64 0,.sl true []],[.int .i64 13,.int .i64 0,.int .i64 0,.sl true []]],.int .i64 (-1)]
def aC1:List AV:=[.str ⟨#[110,101,120,116]⟩,.int .i64 7,.int .i64 (-100),.int .i64 0,.sl true [[.int .i64 28,.int .i64 0,.int .i64 0,.sl true []]],.int .i64 7,.int .i64 (-100),.int .i64 0,.sl true [[.int .i64 9,.int .i64 0,.int .i64 0,.sl true [[.int .i64 28,.int .i64 0,.int .i64 0,.sl true []],[.int .i64 4,.int .i64 1,.int .i64 0,.sl true []]]]],.int .i64 23]
def aC0:List AV:=[.str ⟨#[98,97,99,107]⟩,.int .i64 7,.int .i64 (-100),.int .i64 0,.sl true [[.int .i64 9,.int .i64 0,.int .i64 0,.sl true [[.int .i64 28,.int .i64 0,.int .i64 0,.sl true []],[.int .i64 4,.int .i64 1,.int .i64 0,.sl true []]]]],.int .i64 7,.int .i64 (-100),.int .i64 0,.sl true [[.int .i64 28,.int .i64 0,.int .i64 0,.sl true []]],.int .i64 22]
def lJ:AV:=.sl true [oL0,oL1,oL2,oL3,oL4,oL5,oL6,oL7,oL8,oL9,aDd,aDc,aDb,aDa,aC9,aC8,aC7,aC6,aC5,aC4,aC3,aC2,aC1,aC0]
theorem aAy:Pure Tryz.prog G0 46 [] lJ:=nL 60 60 _ [] J9 bX (by kernel_rfl) (by kernel_rfl) (by kernel_rfl)
def toT:Nat->List AV->T
 |f+1,[.int _ k,.int _ n,.int _ m,.sl _ es]=>.mk k n m (es.map (toT f))
 |_,_=>T.zero
def HZ:List AV->hI
 | [.str s,a,b,c,d,e,f,g,h,.int _ z]=>(s,toT 9 [a,b,c,d],toT 9 [e,f,g,h],z)
 |_=>(ByteArray.empty,T.zero,T.zero,0)
def rO:List (List AV):=match lJ with
 | .sl _ es=>es
 |_=>[]
def LZ:List hI:=rO.map HZ
theorem SY:rO.map wkL=LZ.map eE:=by kernel_rfl
theorem XA:lJ=.sl true rO:=by kernel_rfl
theorem xN:cQ aE rO=true:=by kernel_rfl
theorem O0:rO.length=24:=by kernel_rfl
theorem SX:∀ o∈LZ,T.size o.2.1<=100/\T.size o.2.2.1<=100:=fun o ho=>by
 have h:(LZ.all fun o=>decide (T.size o.2.1<=100)&&decide (T.size o.2.2.1<=100))=true:=by kernel_rfl
 have:=cl.1 h o ho
 simpa using this
theorem TZ (nm:ByteArray) (f p:T) (b:Int):wkL (sF nm f p b)=sF nm f p b:=by
 have hf:=T.wk_enc f
 have hp:=T.wk_enc p
 obtain ⟨fa,fb,fc,fd,hfe⟩:=aN f
 obtain ⟨pa,pb,pc,pd,hpe⟩:=aN p
 rw [hfe] at hf
 rw [hpe] at hp
 simp only [wkL,AM.wk,de,true_and,and_true,AV.sl.injEq] at hf hp
 simp only [sF,hfe,hpe,ar,ba,wkL,AM.wk,hf,hp]
theorem HW {l:List (List AV)} (h:cQ aE l=true):∀ e∈l,aP aE e=true:=by
 induction l with
 |nil=>intro e he;cases he
 |cons a l ih=>
  simp only [cQ,ae] at h
  intro e he
  rcases bn.1 he with rfl|he
  .exact h.1
  .exact ih h.2 e he
def shp:List AV->Bool
 | [.str _,.int .i64 _,.int .i64 _,.int .i64 _,.sl _ _,.int .i64 _,.int .i64 _,.int .i64 _,.sl _ _,.int .i64 _]=>true
 |_=>false
theorem aAo {e:List AV} (h:shp e=true):∃ nm fa fb fc fl fd pa pb pc pl pd z,e=[.str nm,.int .i64 fa,.int .i64 fb,.int .i64 fc,.sl fl fd,.int .i64 pa,.int .i64 pb,.int .i64 pc,.sl pl pd,.int .i64 z]:=by
 unfold shp at h
 split at h
 .exact ⟨_,_,_,_,_,_,_,_,_,_,_,_,rfl⟩
 .cases h
theorem XB:rO.all shp=true:=by kernel_rfl
def wJ (o:hI):Prop:=OpB o/\T.rg o.2.1/\T.rg o.2.2.1
mutual
def T.smb:T->Bool
 | .mk k n m es=>decide (-100<=k/\k<=100)&&(decide (-100<=n/\n<=100)&&(decide (-100<=m/\m<=100)&&T.smbs es))
def T.smbs:List T->Bool
 | []=>true
 |e::es=>T.smb e&&T.smbs es
end
mutual
theorem M4:∀ t:T,T.smb t=true->T.rg t
 | .mk k n m es,h=>by
  rw [T.smb] at h
  simp only [ae,decide_eq_true_eq] at h
  exact ⟨xU (by omega) (by omega),xU (by omega) (by omega),xU (by omega) (by omega),OD es h.2.2.2⟩
theorem OD:∀ es:List T,T.smbs es=true->T.rgs es
 | [],_=>trivial
 |e::es,h=>by
  rw [T.smbs,ae] at h
  exact ⟨M4 e h.1,OD es h.2⟩
end
theorem aAj:∀ o∈LZ,T.rg o.2.1/\T.rg o.2.2.1:=fun o ho=>by
 have h:LZ.all (fun o=>T.smb o.2.1&&T.smb o.2.2.1)=true:=by kernel_rfl
 have:=cl.1 h o ho
 rw [ae] at this
 exact ⟨M4 _ this.1,M4 _ this.2⟩
def OE (e:List AV):Prop:=e.length=10/\aP aE e=true/\∃ o:hI,wkL e=eE o/\wJ o
theorem I6 {k:Nat} (hk:k<24):∃ nm fa fb fc fl fd pa pb pc pl pd z,rO[k]? =some [.str nm,.int .i64 fa,.int .i64 fb,.int .i64 fc,.sl fl fd,.int .i64 pa,.int .i64 pb,.int .i64 pc,.sl pl pd,.int .i64 z]/\∀ y:Int,OE [.str nm,.int .i64 fa,.int .i64 fb,.int .i64 fc,.sl fl fd,.int .i64 pa,.int .i64 pb,.int .i64 pc,.sl pl pd,.int .i64 y]:=by
 obtain ⟨e,he⟩:∃ e,rO[k]? =some e:=⟨_,ah (by rw [O0];exact hk)⟩
 have hm:=aj he
 obtain ⟨nm,fa,fb,fc,fl,fd,pa,pb,pc,pl,pd,z,rfl⟩:=aAo (cl.1 XB e hm)
 have ht:=HW xN _ hm
 have hw2:(LZ.map eE)[k]? =some (wkL [.str nm,.int .i64 fa,.int .i64 fb,.int .i64 fc,.sl fl fd,.int .i64 pa,.int .i64 pb,.int .i64 pc,.sl pl pd,.int .i64 z]):=by rw [<- SY,bh,he];rfl
 rw [bh] at hw2
 obtain ⟨⟨onm,f,p,b⟩,ho',hoe⟩:=bw.1 hw2
 have hos:=SX _ (aj ho')
 have hor:=aAj _ (aj ho')
 refine ⟨nm,fa,fb,fc,fl,fd,pa,pb,pc,pl,pd,z,he,fun y=>⟨rfl,by simpa only [aP,aI,ac,ab] using ht,(onm,f,p,y),?_,⟨dj hos.1 (by decide),dj hos.2 (by decide)⟩,hor⟩⟩
 obtain ⟨ga,gb,gc,gd,hge⟩:=aN f
 obtain ⟨qa,qb,qc,qd,hqe⟩:=aN p
 simp only [eE,sF,hge,hqe,ar,ba,wkL,AM.wk,de,AV.int.injEq,AV.sl.injEq,AV.str.injEq,true_and,and_true] at hoe ⊢
 simp only [hoe,and_self]
theorem MD:∀ {l:List (List AV)},(∀ e∈l,OE e)->∃ O:List hI,l.map wkL=O.map eE/\O.length=l.length/\∀ o∈O,wJ o
 | [],_=>⟨[],rfl,rfl,fun o h=>by cases h⟩
 |e::l,h=>by
  obtain ⟨_,_,o,h1,h2⟩:=h e (by simp)
  obtain ⟨O,g1,g2,g3⟩:=MD (l:=l) fun e he=>h e (by simp [he])
  exact ⟨o::O,by simp only [ay,h1,g1],by simp [g2],fun x hx=>by
   rcases bn.1 hx with rfl|hx
   .exact h2
   .exact g3 x hx⟩
theorem ON (nm:ByteArray) (f p:T) (b:Int):(eE (nm,f,p,b)).length=10:=by
 obtain ⟨ga,gb,gc,gd,hge⟩:=aN f
 obtain ⟨qa,qb,qc,qd,hqe⟩:=aN p
 simp only [eE,sF,hge,hqe];rfl
theorem lS {l:List (List AV)} (h:∀ e∈l,OE e):cQ aE l=true:=y5 fun e he=>(h e he).2.1
theorem B0 (l:List Int) (hl:∀ x∈l,bR x) (i m:Nat) (hm:0<m):∃ k:Nat,k<m/\Pure Tryz.prog G0 70 [cY l,.int .i64 (i:Nat),.int .i64 (m:Nat)] (.int .i64 (k:Nat)):=by
 have h:=v7 l (i:Int) (m:Int) hl (by omega)
 have hb:=B1 l (i:Int) (m:Int) (by omega)
 exact ⟨(sG l i m).toNat,by omega,by rw [dc hb.1];exact h⟩
set_option maxHeartbeats 16000000 in
theorem aCa (c:T) (hc:T.size c<=16000000000) (hrc:T.rg c) (l:List Int) (hl:∀ x∈l,bR x):∃ O:List hI,Pure Tryz.prog G0 35 [.agg (T.enc c),cY l] (.sl false (O.map eE))/\O.length<=7/\∀ o∈O,wJ o:=by
 have kst:=aAy
 rw [XA] at kst
 have hsl:=O0
 have hst:=xN
 obtain ⟨kf,hkf⟩:∃ f:Nat->Nat,∀ i:Nat,i<3->f i<11/\Pure Tryz.prog G0 70 [cY l,.int .i64 (i:Nat),.int .i64 11] (.int .i64 (f i:Nat)):=
  ⟨fun i=>(B0 l hl i 11 (by decide)).choose,fun i _=>(B0 l hl i 11 (by decide)).choose_spec⟩
 have hA:∃ A B:Nat->List AV,∀ i,i<3->OE (A i)/\OE (B i)/\∃ nm fa fb fc fl fd pa pb pc pl pd z nm' fa' fb' fc' fl' fd' pa' pb' pc' pl' pd' z',rO[2*kf i]? =some [.str nm,.int .i64 fa,.int .i64 fb,.int .i64 fc,.sl fl fd,.int .i64 pa,.int .i64 pb,.int .i64 pc,.sl pl pd,.int .i64 z]/\rO[2*kf i+1]? =some [.str nm',.int .i64 fa',.int .i64 fb',.int .i64 fc',.sl fl' fd',.int .i64 pa',.int .i64 pb',.int .i64 pc',.sl pl' pd',.int .i64 z']/\
   A i=[.str nm,.int .i64 fa,.int .i64 fb,.int .i64 fc,.sl fl fd,.int .i64 pa,.int .i64 pb,.int .i64 pc,.sl pl pd,.int .i64 (if kf i=10 then -1 else if kf i=4 then (2*i:Nat) else IntKind.i64.wrap (IntKind.i64.wrap (((2*i:Nat):Int)+z) - ((2*kf i:Nat):Int)))]/\
   B i=[.str nm',.int .i64 fa',.int .i64 fb',.int .i64 fc',.sl fl' fd',.int .i64 pa',.int .i64 pb',.int .i64 pc',.sl pl' pd',.int .i64 (if kf i=10 then -1 else if kf i=4 then (2*i+1:Nat) else IntKind.i64.wrap (IntKind.i64.wrap (((2*i:Nat):Int)+z') - ((2*kf i:Nat):Int)))]:=by
  have h1:∀ i:Nat,∃ A B:List AV,i<3->OE A/\OE B/\∃ nm fa fb fc fl fd pa pb pc pl pd z nm' fa' fb' fc' fl' fd' pa' pb' pc' pl' pd' z',rO[2*kf i]? =some [.str nm,.int .i64 fa,.int .i64 fb,.int .i64 fc,.sl fl fd,.int .i64 pa,.int .i64 pb,.int .i64 pc,.sl pl pd,.int .i64 z]/\rO[2*kf i+1]? =some [.str nm',.int .i64 fa',.int .i64 fb',.int .i64 fc',.sl fl' fd',.int .i64 pa',.int .i64 pb',.int .i64 pc',.sl pl' pd',.int .i64 z']/\
    A=[.str nm,.int .i64 fa,.int .i64 fb,.int .i64 fc,.sl fl fd,.int .i64 pa,.int .i64 pb,.int .i64 pc,.sl pl pd,.int .i64 (if kf i=10 then -1 else if kf i=4 then (2*i:Nat) else IntKind.i64.wrap (IntKind.i64.wrap (((2*i:Nat):Int)+z) - ((2*kf i:Nat):Int)))]/\
    B=[.str nm',.int .i64 fa',.int .i64 fb',.int .i64 fc',.sl fl' fd',.int .i64 pa',.int .i64 pb',.int .i64 pc',.sl pl' pd',.int .i64 (if kf i=10 then -1 else if kf i=4 then (2*i+1:Nat) else IntKind.i64.wrap (IntKind.i64.wrap (((2*i:Nat):Int)+z') - ((2*kf i:Nat):Int)))]:=fun i=>by
   by_cases hi:i<3
   .have hk:=(hkf i hi).1
    obtain ⟨nm,fa,fb,fc,fl,fd,pa,pb,pc,pl,pd,z,h1,h2⟩:=I6 (k:=2*kf i) (by omega)
    obtain ⟨nm',fa',fb',fc',fl',fd',pa',pb',pc',pl',pd',z',g1,g2⟩:=I6 (k:=2*kf i+1) (by omega)
    exact ⟨_,_,fun _=>⟨h2 _,g2 _,nm,fa,fb,fc,fl,fd,pa,pb,pc,pl,pd,z,nm',fa',fb',fc',fl',fd',pa',pb',pc',pl',pd',z',h1,g1,rfl,rfl⟩⟩
   .exact ⟨[],[],fun h=>absurd h hi⟩
  exact ⟨fun i=>(h1 i).choose,fun i=>(h1 i).choose_spec.choose,fun i hi=>(h1 i).choose_spec.choose_spec hi⟩
 obtain ⟨A,B,hAB⟩:=hA
 obtain ⟨q3,hq3,ka3⟩:=B0 l hl 3 3 (by decide)
 have htr:=T.enc_tree c
 have hp6:=OM _ c (ap _) (by omega)
 have hSl:(T.paths c).length=T.size c:=T.paths_len c
 have hsp:=T.size_pos c
 obtain ⟨q4,hq4,ka4⟩:=B0 l hl 4 (T.paths c).length (by omega)
 obtain ⟨q5,hq5,ka5⟩:=B0 l hl 5 (T.paths c).length (by omega)
 obtain ⟨p4,hp4⟩:∃ p,(T.paths c)[q4]? =some p:=⟨_,ah hq4⟩
 obtain ⟨p5,hp5⟩:∃ p,(T.paths c)[q5]? =some p:=⟨_,ah hq5⟩
 obtain ⟨hl4,x4,hx4,hz4⟩:=T.paths_sub c p4 (aj hp4)
 obtain ⟨hl5,x5,hx5,hz5⟩:=T.paths_sub c p5 (aj hp5)
 have kat4:=FO p4 c (by omega)
 have kat5:=FO p5 c (by omega)
 rw [hx4,gG] at kat4
 rw [hx5,gG] at kat5
 obtain ⟨_,⟨mnm,mf,mp,mb,rfl,hm1,hm2,hm3,hm4⟩,kma⟩:=aAU l hl x4 x5 (by omega) (by omega) (M3 hrc hx4) (M3 hrc hx5)
 have hcg4:=yO hp4
 have hcg5:=yO hp5
 have hcl:=mD (T.paths c)
 have hctr:=lR (T.paths c)
 rw [<- hcl] at ka4 ka5 hq4 hq5
 generalize PE (T.paths c)=SEs at hp6 hcg4 hcg5 hcl hctr ka4 ka5 hq4 hq5
 obtain ⟨appL,happ0,happS⟩:∃ f:Nat->List (List AV),f 0=[]/\∀ i,f (i+1)=f i++[A i,B i]:=⟨fun i=>((List.range i).map fun j=>[A j,B j]).flatten,rfl,fun i=>by simp [List.range_succ]⟩
 have happO:∀ i,i<=3->∀ e∈appL i,OE e:=fun i=>by
  induction i with
  |zero=>intro _ e he;rw [happ0] at he;cases he
  |succ i ih=>
   intro hi e he
   rw [happS] at he
   rcases bo.1 he with he|he
   .exact ih (by omega) e he
   .obtain ⟨h1,h2,_⟩:=hAB i (by omega)
    rcases bn.1 he with rfl|he
    .exact h1
    .rw [bd.1 he];exact h2
 have happl:∀ i,(appL i).length=2*i:=fun i=>by
  induction i with
  |zero=>rw [happ0];rfl
  |succ i ih=>rw [happS,an,ih];simp;omega
 have hmade:OE (eE (mnm,mf,mp,mb)):=⟨ON mnm mf mp mb,jL _ _ _ _,(mnm,mf,mp,mb),TZ _ _ _ _,⟨by show T.size mf<=_;omega,by show T.size mp<=_;omega⟩,hm3,hm4⟩
 by_cases hq:q3=0
 .obtain ⟨O,hO1,hO2,hO3⟩:=MD (l:=appL 3++[eE (mnm,mf,mp,mb)]) fun e he=>by
   rcases bo.1 he with he|he
   .exact happO 3 (by decide) e he
   .rw [bd.1 he];exact hmade
  refine ⟨O,?_,by rw [hO2,an,happl];simp,hO3⟩
  have hkf':∀ i:Nat,i<3->kf i<11/\_:=hkf
  have hLt:cQ aE (l.map fun n=>[AV.int .i64 n])=true:=bD l
  have hrt:=dH O
  simp only [cY] at ka3 ka4 ka5 kma hkf' ⊢
  generalize (l.map fun n=>[AV.int .i64 n])=EL at hLt ka3 ka4 ka5 kma hkf' ⊢
  obtain ⟨ca,cb,cc,cd,hce⟩:=aN c
  obtain ⟨xa,xb,xc,xd,hxe⟩:=aN x4
  obtain ⟨ya,yb,yc,yd,hye⟩:=aN x5
  rw [hce] at hp6 htr kat4 kat5 ⊢
  rw [hxe] at kat4 kma
  rw [hye] at kat5 kma
  generalize aT p4=i4 at hcg4 kat4
  generalize aT p5=i5 at hcg5 kat5
  generalize rO=SL at kst hsl hst hAB
  refine bH bX Tryz.func35 rfl (by kernel_rfl) (by simp [Tryz.ntmps35]) (by simp only [aP,aI,hLt,ac,ab] at htr ⊢;exact htr) (by simp only [aI];exact hrt) ?_
  simp only [Tryz.ntmps35,aK,Nat.reduceAdd]
  
  refine jH ?_
  repeat' (first|(refine cC ?_;refine aA)|refine aM|refine bO bX (kst) (gR ?_))
  refine aJ (α:={i:Nat // i<=3}) (fun i=>[(1,.sl false EL),(2,.ptr 0 0 0),(5,.sl true SL),(6,rv 1 (i.1 - 1) 10 (appL i.1)),(7,.int .i64 (i.1:Nat))]) (fun i=>[.cells 0 [.int .i64 ca,.int .i64 cb,.int .i64 cc,.sl false cd],eX (i.1 - 1) (appL i.1)]) (fun i=>3 - i.1) ⟨0,az _⟩ (cA [] (kp [0,1]) bX (fun r hr=>absurd hr (bm r)) ?_ ?_ ?_) ?_
  .simp only [wS,simprocAttr,dL,iD,and_true,true_or,happ0,eI];try exact .toRsv
  .simp only [bg,bz,ab,ae,aI,aB hLt,aB hst,true_and,Nat.zero_sub];exact ⟨rfl,bU rfl⟩
  .simp only [wS,simprocAttr,happ0,eG]
   simp only [hY,and_true]
   exact kr rfl (bE htr) (by simp)
  .rintro ⟨i,hi⟩ K hK
   try simp only at hi
   have happl':=happl i
   by_cases hlt:i<3
   .have c1:decide (((i:Nat):Int)<3)=true:=by simp;omega
    have e3:=aO (k:=i) hlt (by omega)
    obtain ⟨hk11,hka⟩:=hkf' i hlt
    obtain ⟨hoA,hoB,nm,fa,fb,fc,fl,fd,pa,pb,pc,pl,pd,z,nm',fa',fb',fc',fl',fd',pa',pb',pc',pl',pd',z',ha,hb,hAi,hBi⟩:=hAB i hlt
    have hA:2*kf i<SL.length:=by omega
    have hB:2*kf i+1<SL.length:=by omega
    have w1:IntKind.i64.wrap (2*((kf i:Nat):Int))=((2*kf i:Nat):Int):=by rw [dP (by omega) (by omega)];omega
    have w2:IntKind.i64.wrap (((2*kf i:Nat):Int)+1)=((2*kf i+1:Nat):Int):=by rw [dP (by omega) (by omega)];omega
    have w3:IntKind.i64.wrap (2*((i:Nat):Int))=((2*i:Nat):Int):=by rw [dP (by omega) (by omega)];omega
    have w4:IntKind.i64.wrap (((2*i:Nat):Int)+1)=((2*i+1:Nat):Int):=by rw [dP (by omega) (by omega)];omega
    have htk:=happS i
    have hps:∀ e∈appL i,e.length=10:=fun e he=>(happO i (by omega) e he).1
    have hvv:i=if appL i=[] then 0 else i - 1+1:=by
     by_cases h0:appL i=[]
     .rw [if_pos h0];rw [h0] at happl';simp at happl';omega
     .rw [if_neg h0]
      have:i≠0:=fun hz=>h0 (by rw [hz];exact happ0)
      omega
    by_cases h10:kf i=10
    .have h4:¬ kf i=4:=by omega
     have c4:(((kf i:Nat):Int)==4)=false:=by simp;omega
     have c10:(((kf i:Nat):Int)==10)=true:=by simp;omega
     simp only [h10,h4,if_true,if_false,reduceIte] at hAi hBi
     rw [hAi,hBi] at htk
     repeat' (first|(refine cC ?_;simp only [wS,simprocAttr,c1,ha,hb,hA,hB,w1,w2,w3,w4,c4,c10,e3,bf,be])|refine aM|refine bO bX (hka) (gR ?_)|refine cL (v':=i) (es:=[[.str nm,.int .i64 fa,.int .i64 fb,.int .i64 fc,.sl fl fd,.int .i64 pa,.int .i64 pb,.int .i64 pc,.sl pl pd,.int .i64 (-1)],[.str nm',.int .i64 fa',.int .i64 fb',.int .i64 fc',.sl fl' fd',.int .i64 pa',.int .i64 pb',.int .i64 pc',.sl pl' pd',.int .i64 (-1)]]) (by':=120) (by kernel_rfl) aZ hvv hps (by simp [cW]) (by simp) (by rw [happl'];simp only [af,ak];omega) (gR ?_))
     refine hK.go ⟨i+1,hlt⟩ aX (by simp only;omega)
     .simp only [wS,simprocAttr,cj,htk];try exact rfl
     .simp only [wS,simprocAttr,cj,htk];try exact rfl
     .intro z hz
      replace hz:=aC hz
      rcases hz with rfl|rfl|rfl|rfl|rfl<;>first|rfl|(simp only [aI];first|exact aB hLt|exact aB hst|exact bU rfl)
     .refine aS;try exact ⟨bE htr,bA (aB (lS (happO _ hlt)))⟩
    .by_cases h4:kf i=4
     .have c4:(((kf i:Nat):Int)==4)=true:=by simp;omega
      have c10:(((kf i:Nat):Int)==10)=false:=by simp;omega
      simp only [h10,h4,if_true,if_false,reduceIte] at hAi hBi
      rw [hAi,hBi] at htk
      repeat' (first|(refine cC ?_;simp only [wS,simprocAttr,c1,ha,hb,hA,hB,w1,w2,w3,w4,c4,c10,e3,bf,be])|refine aM|refine bO bX (hka) (gR ?_)|refine cL (v':=i) (es:=[[.str nm,.int .i64 fa,.int .i64 fb,.int .i64 fc,.sl fl fd,.int .i64 pa,.int .i64 pb,.int .i64 pc,.sl pl pd,.int .i64 (((2*i:Nat):Int))],[.str nm',.int .i64 fa',.int .i64 fb',.int .i64 fc',.sl fl' fd',.int .i64 pa',.int .i64 pb',.int .i64 pc',.sl pl' pd',.int .i64 (((2*i+1:Nat):Int))]]) (by':=120) (by kernel_rfl) aZ hvv hps (by simp [cW]) (by simp) (by rw [happl'];simp only [af,ak];omega) (gR ?_))
      refine hK.go ⟨i+1,hlt⟩ aX (by simp only;omega)
      .simp only [wS,simprocAttr,cj,htk];try exact rfl
      .simp only [wS,simprocAttr,cj,htk];try exact rfl
      .intro z hz
       replace hz:=aC hz
       rcases hz with rfl|rfl|rfl|rfl|rfl<;>first|rfl|(simp only [aI];first|exact aB hLt|exact aB hst|exact bU rfl)
      .refine aS;try exact ⟨bE htr,bA (aB (lS (happO _ hlt)))⟩
     .have c4:(((kf i:Nat):Int)==4)=false:=by simp;omega
      have c10:(((kf i:Nat):Int)==10)=false:=by simp;omega
      simp only [h10,h4,if_true,if_false,reduceIte] at hAi hBi
      rw [hAi,hBi] at htk
      repeat' (first|(refine cC ?_;simp only [wS,simprocAttr,c1,ha,hb,hA,hB,w1,w2,w3,w4,c4,c10,e3,bf,be])|refine aM|refine bO bX (hka) (gR ?_)|refine cL (v':=i) (es:=[[.str nm,.int .i64 fa,.int .i64 fb,.int .i64 fc,.sl fl fd,.int .i64 pa,.int .i64 pb,.int .i64 pc,.sl pl pd,.int .i64 (IntKind.i64.wrap (IntKind.i64.wrap (((2*i:Nat):Int)+z) - ((2*kf i:Nat):Int)))],[.str nm',.int .i64 fa',.int .i64 fb',.int .i64 fc',.sl fl' fd',.int .i64 pa',.int .i64 pb',.int .i64 pc',.sl pl' pd',.int .i64 (IntKind.i64.wrap (IntKind.i64.wrap (((2*i:Nat):Int)+z') - ((2*kf i:Nat):Int)))]]) (by':=120) (by kernel_rfl) aZ hvv hps (by simp [cW]) (by simp) (by rw [happl'];simp only [af,ak];omega) (gR ?_))
      refine hK.go ⟨i+1,hlt⟩ aX (by simp only;omega)
      .simp only [wS,simprocAttr,cj,htk];try exact rfl
      .simp only [wS,simprocAttr,cj,htk];try exact rfl
      .intro z hz
       replace hz:=aC hz
       rcases hz with rfl|rfl|rfl|rfl|rfl<;>first|rfl|(simp only [aI];first|exact aB hLt|exact aB hst|exact bU rfl)
      .refine aS;try exact ⟨bE htr,bA (aB (lS (happO _ hlt)))⟩
   .have c1:decide (((i:Nat):Int)<3)=false:=by simp;omega
    obtain rfl:i=3:=by omega
    have c3:(((q3:Nat):Int)==0)=true:=by simp;omega
    have hLtree:=lS (l:=appL 3++[eE (mnm,mf,mp,mb)]) fun e he=>by
     rcases bo.1 he with he|he
     .exact happO 3 (by decide) e he
     .rw [bd.1 he];exact hmade
    obtain ⟨mfa,mfb,mfc,mfd,hmf⟩:=aN mf
    obtain ⟨mpa,mpb,mpc,mpd,hmp⟩:=aN mp
    have hcm:eE (mnm,mf,mp,mb)=[.str mnm,.int .i64 mfa,.int .i64 mfb,.int .i64 mfc,.sl false mfd,.int .i64 mpa,.int .i64 mpb,.int .i64 mpc,.sl false mpd,.int .i64 mb]:=by simp only [eE,sF,hmf,hmp,ar,ba]
    rw [show AV.agg (sF mnm mf mp mb)=.agg (eE (mnm,mf,mp,mb)) from rfl,hcm] at kma
    rw [hcm] at hLtree hO1
    have hp3:∀ e∈appL 3,e.length=10:=fun e he=>(happO 3 (by decide) e he).1
    have hv3:3=if appL 3=[] then 0 else 3 - 1+1:=by rw [if_neg (fun h=>by rw [h] at happl';simp at happl')]
    repeat' (first|(refine cC ?_;simp only [wS,simprocAttr,c1,c3,hcg4,hcg5,hq4,hq5,bf,be])|refine aM|refine bO bX (ka3) (gR ?_)|refine bO bX (hp6) (gR ?_)|refine bO bX (ka4) (gR ?_)|refine bO bX (kat4) (gR ?_)|refine bO bX (ka5) (gR ?_)|refine bO bX (kat5) (gR ?_)|refine bO bX (kma) (gR ?_)|refine cL (v':=3) (es:=[[.str mnm,.int .i64 mfa,.int .i64 mfb,.int .i64 mfc,.sl false mfd,.int .i64 mpa,.int .i64 mpb,.int .i64 mpc,.sl false mpd,.int .i64 mb]]) (by':=120) (by kernel_rfl) aZ hv3 hp3 (by simp [cW]) (by simp) (by rw [happl'];simp only [af,ak];omega) (gR ?_))
    refine ⟨_,cA [1] (kp []) (l:=[(4,.sl false (appL 3++[[.str mnm,.int .i64 mfa,.int .i64 mfb,.int .i64 mfc,.sl false mfd,.int .i64 mpa,.int .i64 mpb,.int .i64 mpc,.sl false mpd,.int .i64 mb]]))]) (h:=[]) bX (fun r hr=>absurd hr (bm r)) ?_ ?_ ?_,aD rfl ?_⟩
    .simp only [wS,simprocAttr,dL,iD,and_true,true_or]
     exact .inr (eA (v:=3) aZ (by simp) (fun e he=>by
      rcases bo.1 he with he|he
      .exact hp3 e he
      .rw [bd.1 he];rfl) hLtree)
    .simp only [bg,bz,ab,aI];exact aB hLtree
    .refine aA
     simp only [hY,and_true]
     refine ⟨?_,?_,?_,?_⟩<;>rfl
    .refine aA
     rw [AM.wk,gS,hO1]
 .obtain ⟨O,hO1,hO2,hO3⟩:=MD (happO 3 (by decide))
  refine ⟨O,?_,by rw [hO2,happl];simp,hO3⟩
  have hkf':∀ i:Nat,i<3->kf i<11/\_:=hkf
  have hLt:cQ aE (l.map fun n=>[AV.int .i64 n])=true:=bD l
  have hrt:=dH O
  simp only [cY] at ka3 ka4 ka5 kma hkf' ⊢
  generalize (l.map fun n=>[AV.int .i64 n])=EL at hLt ka3 ka4 ka5 kma hkf' ⊢
  obtain ⟨ca,cb,cc,cd,hce⟩:=aN c
  obtain ⟨xa,xb,xc,xd,hxe⟩:=aN x4
  obtain ⟨ya,yb,yc,yd,hye⟩:=aN x5
  rw [hce] at hp6 htr kat4 kat5 ⊢
  rw [hxe] at kat4 kma
  rw [hye] at kat5 kma
  generalize aT p4=i4 at hcg4 kat4
  generalize aT p5=i5 at hcg5 kat5
  generalize rO=SL at kst hsl hst hAB
  refine bH bX Tryz.func35 rfl (by kernel_rfl) (by simp [Tryz.ntmps35]) (by simp only [aP,aI,hLt,ac,ab] at htr ⊢;exact htr) (by simp only [aI];exact hrt) ?_
  simp only [Tryz.ntmps35,aK,Nat.reduceAdd]
  
  refine jH ?_
  repeat' (first|(refine cC ?_;refine aA)|refine aM|refine bO bX (kst) (gR ?_))
  refine aJ (α:={i:Nat // i<=3}) (fun i=>[(1,.sl false EL),(2,.ptr 0 0 0),(5,.sl true SL),(6,rv 1 (i.1 - 1) 10 (appL i.1)),(7,.int .i64 (i.1:Nat))]) (fun i=>[.cells 0 [.int .i64 ca,.int .i64 cb,.int .i64 cc,.sl false cd],eX (i.1 - 1) (appL i.1)]) (fun i=>3 - i.1) ⟨0,az _⟩ (cA [] (kp [0,1]) bX (fun r hr=>absurd hr (bm r)) ?_ ?_ ?_) ?_
  .simp only [wS,simprocAttr,dL,iD,and_true,true_or,happ0,eI];try exact .toRsv
  .simp only [bg,bz,ab,ae,aI,aB hLt,aB hst,true_and,Nat.zero_sub];exact ⟨rfl,bU rfl⟩
  .simp only [wS,simprocAttr,happ0,eG]
   simp only [hY,and_true]
   exact kr rfl (bE htr) (by simp)
  .rintro ⟨i,hi⟩ K hK
   try simp only at hi
   have happl':=happl i
   by_cases hlt:i<3
   .have c1:decide (((i:Nat):Int)<3)=true:=by simp;omega
    have e3:=aO (k:=i) hlt (by omega)
    obtain ⟨hk11,hka⟩:=hkf' i hlt
    obtain ⟨hoA,hoB,nm,fa,fb,fc,fl,fd,pa,pb,pc,pl,pd,z,nm',fa',fb',fc',fl',fd',pa',pb',pc',pl',pd',z',ha,hb,hAi,hBi⟩:=hAB i hlt
    have hA:2*kf i<SL.length:=by omega
    have hB:2*kf i+1<SL.length:=by omega
    have w1:IntKind.i64.wrap (2*((kf i:Nat):Int))=((2*kf i:Nat):Int):=by rw [dP (by omega) (by omega)];omega
    have w2:IntKind.i64.wrap (((2*kf i:Nat):Int)+1)=((2*kf i+1:Nat):Int):=by rw [dP (by omega) (by omega)];omega
    have w3:IntKind.i64.wrap (2*((i:Nat):Int))=((2*i:Nat):Int):=by rw [dP (by omega) (by omega)];omega
    have w4:IntKind.i64.wrap (((2*i:Nat):Int)+1)=((2*i+1:Nat):Int):=by rw [dP (by omega) (by omega)];omega
    have htk:=happS i
    have hps:∀ e∈appL i,e.length=10:=fun e he=>(happO i (by omega) e he).1
    have hvv:i=if appL i=[] then 0 else i - 1+1:=by
     by_cases h0:appL i=[]
     .rw [if_pos h0];rw [h0] at happl';simp at happl';omega
     .rw [if_neg h0]
      have:i≠0:=fun hz=>h0 (by rw [hz];exact happ0)
      omega
    by_cases h10:kf i=10
    .have h4:¬ kf i=4:=by omega
     have c4:(((kf i:Nat):Int)==4)=false:=by simp;omega
     have c10:(((kf i:Nat):Int)==10)=true:=by simp;omega
     simp only [h10,h4,if_true,if_false,reduceIte] at hAi hBi
     rw [hAi,hBi] at htk
     repeat' (first|(refine cC ?_;simp only [wS,simprocAttr,c1,ha,hb,hA,hB,w1,w2,w3,w4,c4,c10,e3,bf,be])|refine aM|refine bO bX (hka) (gR ?_)|refine cL (v':=i) (es:=[[.str nm,.int .i64 fa,.int .i64 fb,.int .i64 fc,.sl fl fd,.int .i64 pa,.int .i64 pb,.int .i64 pc,.sl pl pd,.int .i64 (-1)],[.str nm',.int .i64 fa',.int .i64 fb',.int .i64 fc',.sl fl' fd',.int .i64 pa',.int .i64 pb',.int .i64 pc',.sl pl' pd',.int .i64 (-1)]]) (by':=120) (by kernel_rfl) aZ hvv hps (by simp [cW]) (by simp) (by rw [happl'];simp only [af,ak];omega) (gR ?_))
     refine hK.go ⟨i+1,hlt⟩ aX (by simp only;omega)
     .simp only [wS,simprocAttr,cj,htk];try exact rfl
     .simp only [wS,simprocAttr,cj,htk];try exact rfl
     .intro z hz
      replace hz:=aC hz
      rcases hz with rfl|rfl|rfl|rfl|rfl<;>first|rfl|(simp only [aI];first|exact aB hLt|exact aB hst|exact bU rfl)
     .refine aS;try exact ⟨bE htr,bA (aB (lS (happO _ hlt)))⟩
    .by_cases h4:kf i=4
     .have c4:(((kf i:Nat):Int)==4)=true:=by simp;omega
      have c10:(((kf i:Nat):Int)==10)=false:=by simp;omega
      simp only [h10,h4,if_true,if_false,reduceIte] at hAi hBi
      rw [hAi,hBi] at htk
      repeat' (first|(refine cC ?_;simp only [wS,simprocAttr,c1,ha,hb,hA,hB,w1,w2,w3,w4,c4,c10,e3,bf,be])|refine aM|refine bO bX (hka) (gR ?_)|refine cL (v':=i) (es:=[[.str nm,.int .i64 fa,.int .i64 fb,.int .i64 fc,.sl fl fd,.int .i64 pa,.int .i64 pb,.int .i64 pc,.sl pl pd,.int .i64 (((2*i:Nat):Int))],[.str nm',.int .i64 fa',.int .i64 fb',.int .i64 fc',.sl fl' fd',.int .i64 pa',.int .i64 pb',.int .i64 pc',.sl pl' pd',.int .i64 (((2*i+1:Nat):Int))]]) (by':=120) (by kernel_rfl) aZ hvv hps (by simp [cW]) (by simp) (by rw [happl'];simp only [af,ak];omega) (gR ?_))
      refine hK.go ⟨i+1,hlt⟩ aX (by simp only;omega)
      .simp only [wS,simprocAttr,cj,htk];try exact rfl
      .simp only [wS,simprocAttr,cj,htk];try exact rfl
      .intro z hz
       replace hz:=aC hz
       rcases hz with rfl|rfl|rfl|rfl|rfl<;>first|rfl|(simp only [aI];first|exact aB hLt|exact aB hst|exact bU rfl)
      .refine aS;try exact ⟨bE htr,bA (aB (lS (happO _ hlt)))⟩
     .have c4:(((kf i:Nat):Int)==4)=false:=by simp;omega
      have c10:(((kf i:Nat):Int)==10)=false:=by simp;omega
      simp only [h10,h4,if_true,if_false,reduceIte] at hAi hBi
      rw [hAi,hBi] at htk
      repeat' (first|(refine cC ?_;simp only [wS,simprocAttr,c1,ha,hb,hA,hB,w1,w2,w3,w4,c4,c10,e3,bf,be])|refine aM|refine bO bX (hka) (gR ?_)|refine cL (v':=i) (es:=[[.str nm,.int .i64 fa,.int .i64 fb,.int .i64 fc,.sl fl fd,.int .i64 pa,.int .i64 pb,.int .i64 pc,.sl pl pd,.int .i64 (IntKind.i64.wrap (IntKind.i64.wrap (((2*i:Nat):Int)+z) - ((2*kf i:Nat):Int)))],[.str nm',.int .i64 fa',.int .i64 fb',.int .i64 fc',.sl fl' fd',.int .i64 pa',.int .i64 pb',.int .i64 pc',.sl pl' pd',.int .i64 (IntKind.i64.wrap (IntKind.i64.wrap (((2*i:Nat):Int)+z') - ((2*kf i:Nat):Int)))]]) (by':=120) (by kernel_rfl) aZ hvv hps (by simp [cW]) (by simp) (by rw [happl'];simp only [af,ak];omega) (gR ?_))
      refine hK.go ⟨i+1,hlt⟩ aX (by simp only;omega)
      .simp only [wS,simprocAttr,cj,htk];try exact rfl
      .simp only [wS,simprocAttr,cj,htk];try exact rfl
      .intro z hz
       replace hz:=aC hz
       rcases hz with rfl|rfl|rfl|rfl|rfl<;>first|rfl|(simp only [aI];first|exact aB hLt|exact aB hst|exact bU rfl)
      .refine aS;try exact ⟨bE htr,bA (aB (lS (happO _ hlt)))⟩
   .have c1:decide (((i:Nat):Int)<3)=false:=by simp;omega
    obtain rfl:i=3:=by omega
    have c3:(((q3:Nat):Int)==0)=false:=by simp;omega
    have hLtree:=lS (happO 3 (by decide))
    have hp3:∀ e∈appL 3,e.length=10:=fun e he=>(happO 3 (by decide) e he).1
    repeat' (first|(refine cC ?_;simp only [wS,simprocAttr,c1,c3,hcg4,hcg5,hq4,hq5,bf,be])|refine aM|refine bO bX (ka3) (gR ?_))
    refine ⟨_,cA [1] (kp []) (l:=[(4,.sl false (appL 3))]) (h:=[]) bX (fun r hr=>absurd hr (bm r)) ?_ ?_ ?_,aD rfl ?_⟩
    .simp only [wS,simprocAttr,dL,iD,and_true,true_or]
     exact .inr (eA (v:=2) aZ (by simp) hp3 hLtree)
    .simp only [bg,bz,ab,aI];exact aB hLtree
    .refine aA
     simp only [hY,and_true]
     refine ⟨?_,?_⟩<;>rfl
    .refine aA
     rw [AM.wk,gS,hO1]
end Go.Proofs.YtggflhbigolakaaGreatDoor
