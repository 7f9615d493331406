import Derived.Test.YtggflhbigolakaaGreatDoorEN
import Derived.Test.YtggflhbigolakaaGreatDoorSM
set_option linter.unusedVariables false
set_option linter.unusedSimpArgs false
namespace Go.Proofs.YtggflhbigolakaaGreatDoor
open Go.AM
attribute [local irreducible] cG bG bI bL bW bZ aQ aV bN
set_option maxRecDepth 100000
def kS (l:List ByteArray):List AV:=l.map .str
def vS (l:List ByteArray):List AV:=l.map fun _=>.bool true
def mJ:List ByteArray->ByteArray->Nat->Option Nat
 | [],_,_=>none
 |x::xs,k,i=>if k=x then some i else mJ xs k (i+1)
theorem iL:∀ (ks:List ByteArray) (k:ByteArray) (i:Nat),lY .string (.str k) (kS ks) i=some (mJ ks k i)
 | [],k,i=>rfl
 |x::xs,k,i=>by
  have e:kS (x::xs)=.str x::kS xs:=rfl
  have ih:=iL xs k (i+1)
  rw [e,lY]
  by_cases h:k=x
  .have:jS .string (.str k) (.str x)=some true:=by simp only [jS,ao];exact (PZ _ _).2 h
   simp only [this,mJ,if_pos h]
  .have:jS .string (.str k) (.str x)=some false:=by
    simp only [jS,ao]
    cases hb:(k==x) with
    |false=>rfl
    |true=>exact absurd ((PZ _ _).1 hb) h
   simp only [this,mJ,if_neg h,ih]
theorem iM:∀ (ks:List ByteArray) (k:ByteArray) (i:Nat),k ∉ ks->mJ ks k i=none
 | [],_,_,_=>rfl
 |x::xs,k,i,h=>by
  rw [bn,not_or] at h
  rw [mJ,if_neg h.1]
  exact iM xs k (i+1) h.2
theorem jT:∀ (ks:List ByteArray) (k:ByteArray) (i:Nat),k∈ks->∃ j,mJ ks k i=some (i+j)/\j<ks.length
 |x::xs,k,i,h=>by
  rw [mJ]
  by_cases hk:k=x
  .exact ⟨0,by rw [if_pos hk];rfl,by simp⟩
  .rw [if_neg hk]
   obtain ⟨j,h1,h2⟩:=jT xs k (i+1) ((bn.1 h).resolve_left hk)
   exact ⟨j+1,by rw [h1];congr 1;omega,by simpa using h2⟩
theorem LO {ks:List ByteArray} {j:Nat} (h:j<ks.length):(vS ks)[j]? =some (.bool true):=by
 rw [vS,bh,ah h];rfl
theorem MU (a b:List ByteArray):kS (a++b)=kS a++kS b:=dq
theorem LQ (a b:List ByteArray):vS (a++b)=vS a++vS b:=dq
theorem iV:∀ l:List ByteArray,aP aE (kS l)=true
 | []=>rfl
 |x::l=>by
  have:=iV l
  simp only [kS,ay,aP,aI,ac] at this ⊢
  exact this
theorem iQ:∀ l:List ByteArray,aP aE (vS l)=true
 | []=>rfl
 |x::l=>by
  have:=iQ l
  simp only [vS,ay,aP,aI,ac] at this ⊢
  exact this
def WQ (l:List ByteArray) (k:ByteArray):Bool:=(mJ l k 0).isSome
theorem j7:∀ {l:List ByteArray} {k:ByteArray},WQ l k=true↔k∈l:=fun {l k}=>by
 rw [WQ]
 constructor
 .intro h
  by_cases hk:k∈l
  .exact hk
  .rw [iM l k 0 hk] at h;cases h
 .intro h
  obtain ⟨j,h1,_⟩:=jT l k 0 h
  rw [h1];rfl
theorem D3 (M:List Si):∀ e∈mC M,e.length=2:=fun e he=>by
 obtain ⟨x,_,rfl⟩:=cf.1 he
 rfl
def iH (f:Si->ByteArray):List Si->List Int->List ByteArray->List Si
 | [],_,_=>[]
 |s::ss,at0,met=>if WQ (if s.1=at0 then met else []) (f s)=true then iH f ss s.1 (if s.1=at0 then met else []) else s::iH f ss s.1 ((if s.1=at0 then met else [])++[f s])
def HB (c:T) (O:List hI) (s:Si):T:=match fK c O s with
 |some x=>x
 |none=>T.zero
theorem G2 (M:List Si) (s:Si):mC (M++[s])=mC M++[[.sl false (aT s.1),.int .i64 s.2]]:=by simp [mC]
set_option maxHeartbeats 16000000 in
theorem YI (c:T) (hc:T.size c<=1000000000) (hrc:T.rg c) (O:List hI) (hO:∀ o∈O,wJ o) (M:List Si) (hM:M.length<=1000000000) (hp:∀ s∈M,s.1.length<=1000000000) (hx:∀ s∈M,T.size (HB c O s)<=500000000000/\T.rg (HB c O s)):Pure Tryz.prog G0 52 [.agg (T.enc c),.sl false (O.map eE),.sl false (mC M)] (.sl false (mC (iH (fun s=>T.key (HB c O s)) M [] []))):=by
 have ht:=cX M
 have hn:=jA M
 have hg:=fun (i:Nat) (s:Si)=>mE (M:=M) (i:=i) (s:=s)
 have hOt:=dH O
 have htr:=T.enc_tree c
 have hap:=fun (s:Si) (hs:s∈M)=>JE c (by omega) O (fun o ho=>(hO o ho).1) s (by have:=hp s hs;omega)
 have heq:=fun (s:Si) (hs:s∈M) (a:List Int)=>PN s.1 a (by have:=hp s hs;omega)
 have hke:=fun (s:Si) (hs:s∈M)=>ZJ (HB c O s) (hx s hs).1 (hx s hs).2
 obtain ⟨f,hf⟩:∃ f:Si->ByteArray,f=fun s=>T.key (HB c O s):=⟨_,rfl⟩
 have hfs:∀ s,T.key (HB c O s)=f s:=fun s=>by rw [hf]
 rw [<- hf]
 simp only [hfs] at hke
 clear hf hfs
 obtain ⟨res,hres⟩:∃ r,r=iH f M [] []:=⟨_,rfl⟩
 rw [<- hres]
 have hrt:=cX res
 have hrl:res.length<=M.length:=by
  rw [hres]
  suffices H:∀ (l:List Si) (a:List Int) (m:List ByteArray),(iH f l a m).length<=l.length from H _ _ _
  intro l
  induction l with
  |nil=>intro a m;exact ap _
  |cons s l ih=>
   intro a m
   rw [iH]
   generalize (if s.1=a then m else [])=m'
   split
   .exact Nat.le_succ_of_le (ih _ _)
   .exact Nat.succ_le_succ (ih _ _)
 generalize hMC:mC M=MC at ht hn hg ⊢
 generalize O.map eE=OL at hOt hap ⊢
 obtain ⟨ca,cb,cc,cd,hce⟩:=aN c
 rw [hce] at htr ⊢
 simp only [hce] at hap
 have htr':cQ aE cd=true:=by simpa only [aP,aI,ac,ab] using htr
 refine aL bX Tryz.func52 rfl (by kernel_rfl) (by simp [Tryz.ntmps52]) (by simp only [aP,aI,hOt,ht,ab,ac] at htr ⊢;exact htr) (by simp only [aI];exact hrt) ?_
 simp only [Tryz.ntmps52,aK,Nat.reduceAdd]
 refine xC
 refine aJ (α:={p:Nat × List Si × List Int × List ByteArray // p.1<=M.length/\res=p.2.1++iH f (M.drop p.1) p.2.2.1 p.2.2.2}) (fun p=>[(1,.sl false OL),(3,.ptr 0 0 0),(7,rv 2 (p.1.2.1.length - 1) 2 (mC p.1.2.1)),(8,.sl false (aT p.1.2.2.1)),(9,.omp 1),(16,.sl false MC),(17,.int .i64 (MC.length:Nat)),(18,.int .i64 (p.1.1:Nat))]) (fun p=>[.cells 0 [.int .i64 ca,.int .i64 cb,.int .i64 cc,.sl false cd],.map (kS p.1.2.2.2) (vS p.1.2.2.2),eX (p.1.2.1.length - 1) (mC p.1.2.1)]) (fun p=>M.length - p.1.1) ⟨(0,[],[],[]),az _,by rw [co,ba];exact hres⟩ (cA [] (kp [0,1,2]) bX (fun r hr=>absurd hr (bm r)) ?_ ?_ ?_) ?_
 .simp only [wS,simprocAttr,dL,iD,and_true,true_or,mC,aT,bu,eI,hn];exact ⟨.toRsv,.inr (.full rfl)⟩
 .simp only [bg,bz,ab,ae,aI,aB hOt,aB ht,true_and];exact ⟨rfl,bU rfl,aB (bD _),rfl⟩
 .simp only [wS,simprocAttr,kS,vS,mC,bu,eG]
  simp only [hY,and_true]
  exact ⟨kr rfl (by simp only [aG,aP,aI,ac,ab];exact aB htr') (by simp),kr rfl rfl (by simp)⟩
 .rintro ⟨⟨i,out,at0,met⟩,hi,hinv⟩ K hK
  try simp only at hi hinv
  have hat:cQ aE (aT at0)=true:=bD at0
  have hol:out.length<=M.length:=by
   have:=congrArg List.length hinv
   rw [an] at this
   omega
  have hmol:=jA out
  have hmo2:=D3 out
  by_cases hlt:i<M.length
  .have c1:decide (((i:Nat):Int)<((MC.length:Nat):Int))=true:=by simp;omega
   have e3:=aO (k:=i) hlt (by omega)
   obtain ⟨s,hs⟩:∃ s,M[i]? =some s:=⟨_,ah hlt⟩
   have hsm:=aj hs
   have gs:=hg i s hs
   have hA:i<MC.length:=by omega
   have hd:M.drop i=s::M.drop (i+1):=by
    obtain ⟨q1,q2⟩:=aq.1 hs
    rw [cg q1,q2]
   rw [hd,iH] at hinv
   have kap:=hap s hsm
   have keq:=heq s hsm at0
   have kke:=hke s hsm
   have hit:cQ aE (aT s.1)=true:=bD s.1
   have hx4:∃ xa xb xc xd b,T.enc (HB c O s)=[.int .i64 xa,.int .i64 xb,.int .i64 xc,.sl false xd]/\gG (fK c O s)=.tup [.agg [.int .i64 xa,.int .i64 xb,.int .i64 xc,.sl false xd],.bool b]:=by
    rw [HB]
    cases fK c O s with
    |some x=>
     obtain ⟨xa,xb,xc,xd,h⟩:=aN x
     exact ⟨xa,xb,xc,xd,true,h,by rw [gG,h]⟩
    |none=>exact ⟨0,0,0,[],false,rfl,rfl⟩
   obtain ⟨xa,xb,xc,xd,xb',hx1,hx2⟩:=hx4
   rw [hx1] at kke
   rw [hx2] at kap
   have hsn:=G2 out s
   have hvv:(out++[s]).length - 1=if mC out=[] then 0 else out.length - 1+1:=by
    rw [an,am]
    by_cases h:mC out=[]
    .rw [if_pos h]
     have:=congrArg List.length h
     rw [hmol] at this
     simp at this;simp [this]
    .rw [if_neg h]
     have:out.length≠0:=fun e=>h (by rw [cu e];rfl)
     omega
   generalize hip:aT s.1=ip at gs kap keq hit hsn ⊢
   generalize f s=ks at hinv kke
   have hk1:kS (met++[ks])=kS met++[.str ks]:=MU _ _
   have hv1:vS (met++[ks])=vS met++[.bool true]:=LQ _ _
   have hk0:kS ([]++[ks])=[.str ks]:=rfl
   have hv0:vS ([]++[ks])=[.bool true]:=rfl
   by_cases hsa:s.1=at0
   .have c2:decide (s.1=at0)=true:=by simpa using hsa
    rw [c2] at keq
    rw [if_pos hsa,hsa] at hinv
    by_cases hm:WQ met ks=true
    .obtain ⟨j,hj1,hj2⟩:=jT met ks 0 (j7.1 hm)
     rw [cp] at hj1
     have hv:=LO hj2
     rw [if_pos hm] at hinv
     refine dM (eT gs hA c1 e3 @iL hj1 hv)
     refine hK.go ⟨(i+1,out,at0,met),hlt,hinv⟩ aX (by simp only;omega)
     .simp only [wS,simprocAttr,hip];try exact rfl
     .simp only [wS,simprocAttr,hip];try exact rfl
     .intro z hz
      replace hz:=aC hz
      rcases hz with rfl|rfl|rfl|rfl|rfl|rfl|rfl|rfl<;>first|rfl|(simp only [aI];first|exact aB hOt|exact aB ht|exact aB hit|exact aB hat|exact aB (bD _)|exact bU rfl)
     .refine aS;try exact ⟨by simp only [aG,aP,aI,ac,ab];exact aB htr',by simp only [aG,ae];exact ⟨bE (iV _),bE (iQ _)⟩,bA (aB (cX _))⟩
    .have hj1:=iM met ks 0 (fun h=>hm (j7.2 h))
     rw [if_neg hm] at hinv
     repeat' (first|(refine cC ?_;simp only [wS,simprocAttr,gs,hA,c1,e3,bf,be,iL,hj1])|refine aM|refine iP ?_|refine cL (v':=(out++[s]).length - 1) (es:=[[.sl false ip,.int .i64 s.2]]) (by':=32) (by kernel_rfl) aZ hvv hmo2 (by simp [cW]) (by simp) (by rw [hmol];simp only [am];omega) (gR ?_))
     refine hK.go ⟨(i+1,out++[s],at0,met++[ks]),hlt,by rw [hinv,bj];rfl⟩ aX (by simp only;omega)
     .simp only [wS,simprocAttr,hip,hsn,hk1,hv1];try exact rfl
     .simp only [wS,simprocAttr,hip,hsn,hk1,hv1];try exact rfl
     .intro z hz
      replace hz:=aC hz
      rcases hz with rfl|rfl|rfl|rfl|rfl|rfl|rfl|rfl<;>first|rfl|(simp only [aI];first|exact aB hOt|exact aB ht|exact aB hit|exact aB hat|exact aB (bD _)|exact bU rfl)
     .refine aS;try exact ⟨by simp only [aG,aP,aI,ac,ab];exact aB htr',by simp only [aG,ae];exact ⟨bE (iV _),bE (iQ _)⟩,bA (aB (cX _))⟩
   .have c2:decide (s.1=at0)=false:=by simpa using hsa
    rw [c2] at keq
    rw [if_neg hsa,if_neg (by simp [WQ,mJ])] at hinv
    have hj1:=iM [] ks 0 (by simp)
    repeat' (first|(refine cC ?_;simp only [wS,simprocAttr,gs,hA,c1,e3,bf,be,iL,hj1])|refine aM|refine iP ?_|refine cL (v':=(out++[s]).length - 1) (es:=[[.sl false ip,.int .i64 s.2]]) (by':=32) (by kernel_rfl) aZ hvv hmo2 (by simp [cW]) (by simp) (by rw [hmol];simp only [am];omega) (gR ?_))
    refine hK.go ⟨(i+1,out++[s],s.1,[]++[ks]),hlt,by rw [hinv,bj];rfl⟩ aX (by simp only;omega)
    .simp only [wS,simprocAttr,hip,hsn,hk0,hv0];try exact rfl
    .simp only [wS,simprocAttr,hip,hsn,hk0,hv0];try exact rfl
    .intro z hz
     replace hz:=aC hz
     rcases hz with rfl|rfl|rfl|rfl|rfl|rfl|rfl|rfl<;>first|rfl|(simp only [aI];first|exact aB hOt|exact aB ht|exact aB hit|exact aB hat|exact aB (bD _)|exact bU rfl)
    .refine aS;try exact ⟨by simp only [aG,aP,aI,ac,ab];exact aB htr',by simp only [aG,ae];exact ⟨bE (iV _),bE (iQ _)⟩,bA (aB (cX _))⟩
  .have c1:decide (((i:Nat):Int)<((MC.length:Nat):Int))=false:=by simp;omega
   obtain rfl:i=M.length:=by omega
   rw [du,iH,br] at hinv
   subst hinv
   refine cP c1
   refine Cont.go (by assumption) ?_
   refine cP c1
   refine Cont.go (by assumption) (cK (cA [2] (kp [0]) (l:=[(7,.sl false (mC res))]) (h:=[.cells 0 [.int .i64 ca,.int .i64 cb,.int .i64 cc,.sl false cd]]) bX (fun r hr=>absurd hr (bm r)) ?_ ?_ ?_) ?_)
   .simp only [wS,simprocAttr,dL,iD,and_true,true_or];exact .inr (eA (v:=res.length - 1) rfl (by simp) hmo2 hrt)
   .simp only [bg,bz,ab,aI];exact aB hrt
   .refine aA
    simp only [hY,and_true]
    exact ⟨kr rfl (by simp only [aG,aP,aI,ac,ab];exact aB htr') (by simp),rfl,rfl⟩
   refine aF
   refine aD rfl ?_
   refine aA
theorem ET {l:List (List AV)}:l.length=if l=[] then 0 else l.length - 1+1:=by
 by_cases h:l=[]
 .rw [if_pos h,h];rfl
 .have:=fh.2 h
  rw [if_neg h];omega
set_option maxHeartbeats 8000000 in
theorem aCi (M:List Si) (hM:M.length<=1000) (hp:∀ s∈M,s.1.length<=1000000000000):Pure Tryz.prog G0 63 [mV M] (mV M):=by
 have ht:=cX M
 have hn:=jA M
 have hg:=fun (i:Nat) (s:Si)=>mE (M:=M) (i:=i) (s:=s)
 have h2:=D3 M
 simp only [mV]
 generalize mC M=MC at ht hn hg h2 ⊢
 refine aL bX Tryz.func63 rfl (by kernel_rfl) (by simp [Tryz.ntmps63]) (by simp only [aP,aI,ht,ai]) (by simp only [aI,aP,ht,ai]) ?_
 simp only [Tryz.ntmps63,aK,Nat.reduceAdd]
 refine aF
 refine aJ (α:={i:Nat // i<=M.length}) (fun i=>[(1,.ptr 0 0 0),(2,.ptr 1 0 0),(3,.ptr 2 0 0),(7,.sl false MC),(8,.int .i64 (MC.length:Nat)),(9,.int .i64 (i.1:Nat))]) (fun i=>[.cells 0 [.sl false MC],.cells 0 [.sl true []],.cells 0 [rv 3 ((MC.take i.1).length - 1) 2 (MC.take i.1)],eX ((MC.take i.1).length - 1) (MC.take i.1)]) (fun i=>M.length - i.1) ⟨0,az _⟩ (cA [] (kp [0,1,2,3]) bX (fun r hr=>absurd hr (bm r)) ?_ ?_ ?_) ?_
 .simp only [wS,simprocAttr,dL,iD,and_true,true_or]
 .simp only [bg,bz,ab,ae,aI,aB ht];exact ⟨rfl,rfl,rfl⟩
 .simp only [wS,simprocAttr,ci,eI,eG]
  simp only [hY,and_true]
  exact ⟨kr rfl (bE (by simp only [aP,aI,ht,ai])) (by simp),kr rfl rfl (by simp),.inr ⟨rfl,rfl,.inr ⟨.inl (by simp),.inr ⟨0,_,_,rfl,rfl,.inr .toRsv,trivial⟩⟩⟩⟩
 .rintro ⟨i,hi⟩ K hK
  try simp only at hi
  have hal:(MC.take i).length=i:=by rw [cr];omega
  have h2':∀ e∈MC.take i,e.length=2:=fun e he=>h2 e (fx he)
  have hvv:=ET (l:=MC.take i)
  by_cases hlt:i<M.length
  .have c1:decide (((i:Nat):Int)<((MC.length:Nat):Int))=true:=by simp;omega
   have hA:i<MC.length:=by omega
   have e3:=aO (k:=i) hlt (by omega)
   obtain ⟨s,hs⟩:∃ s,M[i]? =some s:=⟨_,ah hlt⟩
   have gs:=hg i s hs
   have kc:=AL s.1 (hp s (aj hs))
   have his:cQ aE (aT s.1)=true:=bD _
   have htk:MC.take (i+1)=MC.take i++[[.sl false (aT s.1),.int .i64 s.2]]:=by rw [dh,gs];rfl
   have hml:(MC.take i++[[AV.sl false (aT s.1),.int .i64 s.2]]).length - 1=(MC.take i).length:=by simp
   have htt:cQ aE (MC.take i++[[AV.sl false (aT s.1),.int .i64 s.2]])=true:=by rw [<- htk];exact zM ht _
   generalize aT s.1=is at gs kc htk hml his htt
   repeat' (first|(refine cC ?_;simp only [wS,simprocAttr,gs,hA,c1,e3,↓bM,↓aY])|refine aM|refine iP ?_|refine cL (v':=(MC.take i).length) (es:=[[.sl false is,.int .i64 s.2]]) (by':=32) (by kernel_rfl) aZ hvv h2' (by simp [cW]) (by simp) (by simp only [af,ak];omega) (gR ?_))
   refine hK.go ⟨i+1,hlt⟩ aX (by simp only;omega)
   .simp only [wS,simprocAttr,↓bM,↓aY];try exact rfl
   .simp only [wS,simprocAttr,htk,hml];try exact rfl
   .intro z hz
    replace hz:=aC hz
    rcases hz with rfl|rfl|rfl|rfl|rfl|rfl<;>first|rfl|(simp only [aI];exact aB ht)
   .refine aS;try exact ⟨bE (by simp only [aP,aI,ht,ai]),rfl,(by simp only [aG,aP,ab];exact bU rfl),bA (aB (by rw [htk];exact htt))⟩
  .have c1:decide (((i:Nat):Int)<((MC.length:Nat):Int))=false:=by simp;omega
   obtain rfl:i=M.length:=by omega
   have hta:MC.take M.length=MC:=bx (by omega)
   rw [hta]
   refine cP c1
   refine Cont.go (by assumption) ?_
   refine cP c1
   refine Cont.go (by assumption) (cK (cA [3] (kp [0,1,2]) (l:=[(2,.ptr 1 0 0),(3,.ptr 2 0 0)]) (h:=[.cells 0 [.sl false MC],.cells 0 [.sl true []],.cells 0 [.sl false MC]]) bX (fun r hr=>absurd hr (bm r)) ?_ ?_ ?_) ?_)
   .simp only [wS,simprocAttr,dL,iD,and_true,true_or]
   .rfl
   .refine aA
    simp only [hY,and_true]
    exact ⟨kr rfl (bE (by simp only [aP,aI,ht,ai])) (by simp),kr rfl rfl (by simp),.inr ⟨rfl,bE (by simp only [aP,aI,ht,ai]),.inr ⟨.inl (by simp),.inr ⟨0,_,_,rfl,rfl,.inr (eA (v:=MC.length - 1) rfl (by simp) h2 ht),trivial⟩⟩⟩,rfl⟩
   refine aF
   refine dB (v:=.agg [.sl false MC]) rfl (by simp only [wS,simprocAttr,↓bM,↓aY];try exact rfl) rfl
end Go.Proofs.YtggflhbigolakaaGreatDoor
