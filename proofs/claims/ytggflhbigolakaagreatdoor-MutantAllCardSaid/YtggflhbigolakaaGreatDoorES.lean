import Derived.Test.YtggflhbigolakaaGreatDoorEI
import Derived.Test.YtggflhbigolakaaGreatDoorUD
set_option linter.unusedSimpArgs false
namespace Go.Proofs.YtggflhbigolakaaGreatDoor
open Go.AM
attribute [local irreducible] cG bG bI bL bW bZ aQ aV bN
set_option maxRecDepth 100000
def rY (M:List Si):List Si->Nat->List (List Si × Nat)
 | [],_=>[]
 |s::l,k=>(if c6 (M++[s])=true then [(M++[s],k+1)] else [])++rY M l (k+1)
def lv (S:List Si):Nat->List (List Si × Nat)
 |0=>[([],0)]
 |n+1=>(lv S n).flatMap fun p=>rY p.1 (S.drop p.2) p.2
def nC (l:List Nat):List (List AV):=l.map fun k=>[.int .i64 (k:Nat)]
theorem MG (l:List Nat):(nC l).length=l.length:=bp ..
theorem ZI (l:List Nat):∀ e∈nC l,e.length=1:=fun e he=>by
 obtain ⟨x,_,rfl⟩:=cf.1 he
 rfl
theorem gY:∀ l:List Nat,cQ aE (nC l)=true
 | []=>rfl
 |m::l=>by
  have h:=gY l
  simp only [nC,ay,cQ,aP,aI,ac] at h ⊢
  exact h
theorem aAN {l:List Nat} {i k:Nat} (h:l[i]? =some k):(nC l)[i]? =some [.int .i64 (k:Nat)]:=by rw [nC,bh,h];rfl
theorem G1 {l:List (List Si)} {i:Nat} {M:List Si} (h:l[i]? =some M):(fV l)[i]? =some [.sl false (mC M)]:=by rw [fV,bh,h];rfl
theorem KC {M:List Si}:∀ {l:List Si} {k:Nat} {p:List Si × Nat},p∈rY M l k->∃ s∈l,p.1=M++[s]/\k<p.2/\p.2<=k+l.length
 | [],_,_,h=>by cases h
 |s::l,k,p,h=>by
  rw [rY,bo] at h
  rcases h with h|h
  .split at h
   .rw [bd.1 h];exact ⟨s,by simp,rfl,by simp,by simp⟩
   .cases h
  .obtain ⟨x,h1,h2,h3,h4⟩:=KC h
   exact ⟨x,by simp [h1],h2,by omega,by simp;omega⟩
theorem G3 (S:List Si):∀ (n:Nat) (p:List Si × Nat),p∈lv S n->p.1.length=n/\(∀ s∈p.1,s∈S)/\p.2<=S.length
 |0,p,h=>by
  rw [lv,bd] at h
  subst h
  exact ⟨rfl,fun s h=>by (cases h),az _⟩
 |n+1,p,h=>by
  rw [lv,List.mem_flatMap] at h
  obtain ⟨q,h1,h2⟩:=h
  obtain ⟨q1,q2,q3⟩:=G3 S n q h1
  obtain ⟨s,g1,g2,g3,g4⟩:=KC h2
  refine ⟨by rw [g2];simp [q1],fun x hx=>?_,by rw [ik] at g4;omega⟩
  rw [g2] at hx
  rcases bo.1 hx with hx|hx
  .exact q2 x hx
  .rw [bd.1 hx];exact List.mem_of_mem_drop g1
set_option maxHeartbeats 16000000 in
theorem aB7 (S : List Si) (hS : S.length <= 1000000) (hp : ∀ s ∈ S, s.1.length <= 1000000000000000) (many : Nat) (hm : many <= 1000) (hB : ∀ n, n <= many -> (lv S n).length <= 1000000) : Pure Tryz.prog G0 55 [.sl false (mC S), .int .i64 (many : Nat)] (.sl false (fV ((lv S many).map Prod.fst))) := by
 have hst:=cX S
 have hsn:=jA S
 have hsg:=fun (i:Nat) (s:Si)=>mE (M:=S) (i:=i) (s:=s)
 have hrt:=cS ((lv S many).map Prod.fst)
 generalize mC S=SC at hst hsn hsg ⊢
 refine aL bX Tryz.func55 rfl (by kernel_rfl) (by simp [Tryz.ntmps55]) (by simp only [aP,aI,hst,ai]) (by simp only [aI];exact hrt) ?_
 simp only [Tryz.ntmps55,aK,Nat.reduceAdd]
 refine aF
 refine fO (es:=[]) (sz:=1) (by':=8) (mm:=1) (new:=[.int .i64 0]) (by kernel_rfl) rfl rfl (by simp [cW]) (by decide) (by decide) ?_
 refine aA
 refine aF
 refine cK (cA [0] (kp []) (l:=[(0,.sl false SC),(1,.int .i64 (many:Nat)),(5,.sl true [[.sl false []]]),(6,.sl false [[.int .i64 0]]),(7,.int .i64 0)]) (h:=[]) bX (fun r hr=>absurd hr (bm r)) ?_ ?_ ?_) ?_
 .simp only [wS,simprocAttr,dL,iD,and_true,true_or]
  exact ⟨.inr (.sle (.cons (.cons (.full rfl) .nil) .nil)),(.osl (cs:=[.int .i64 0]) (by simp) (by (simp only [wS,simprocAttr,aU];try exact rfl)) rfl (by simp) rfl rfl)⟩
 .simp only [bg,bz,ab,ac,aI,ae];exact ⟨aB hst,rfl,rfl⟩
 .refine aA
  simp only [hY,and_true]
  try exact rfl
 refine aJ (α:={n:Nat // n<=many}) (fun n=>[(0,.sl false SC),(1,.int .i64 (many:Nat)),(5,.sl false (fV ((lv S n.1).map Prod.fst))),(6,.sl false (nC ((lv S n.1).map Prod.snd))),(7,.int .i64 (n.1:Nat))]) (fun _=>[]) (fun n=>many - n.1) ⟨0,az _⟩ (cA [] (kp []) bX (fun r hr=>absurd hr (bm r)) ?_ ?_ ?_) ?_
 .simp only [wS,simprocAttr,dL,iD,and_true,true_or,lv,fV,nC,mC,bu,ay]
  exact .inr (.full rfl)
 .simp only [bg,bz,ab,ac,aI,ae];exact ⟨aB hst,aB (cS _),aB (gY _)⟩
 .simp only [hY]
 .rintro ⟨n, hn⟩ K hK
  try simp only at hn
  obtain ⟨L,hL⟩:∃ L,L=lv S n:=⟨_,rfl⟩
  have hLl:L.length<=1000000:=by rw [hL];exact hB n hn
  have hLm:=G3 S n
  rw [<- hL] at hLm ⊢
  have hLt:=cS (L.map Prod.fst)
  have hFt:=gY (L.map Prod.snd)
  have hLn:=j4 (L.map Prod.fst)
  rw [bp] at hLn
  have hFn:=MG (L.map Prod.snd)
  rw [bp] at hFn
  by_cases hlt:n<many
  .have c1 : decide ((n : Int) < (many : Int)) = true := by simp; omega
   have e1:=aO (k:=n) hlt (by omega)
   have hnx:lv S (n+1)=L.flatMap fun p=>rY p.1 (S.drop p.2) p.2:=by rw [lv,hL]
   have hTl:=hB (n+1) hlt
   refine bB c1
   refine aJ (α:={q:Nat × List (List Si × Nat) // q.1<=L.length/\lv S (n+1)=q.2++(L.drop q.1).flatMap fun p=>rY p.1 (S.drop p.2) p.2}) (fun q=>[(0,.sl false SC),(1,.int .i64 (many:Nat)),(5,.sl false (fV (L.map Prod.fst))),(6,.sl false (nC (L.map Prod.snd))),(7,.int .i64 (n:Nat)),(8,rv 0 (q.1.2.length - 1) 1 (fV (q.1.2.map Prod.fst))),(9,rv 1 (q.1.2.length - 1) 1 (nC (q.1.2.map Prod.snd))),(10,.int .i64 (q.1.1:Nat))]) (fun q=>[eX (q.1.2.length - 1) (fV (q.1.2.map Prod.fst)),eX (q.1.2.length - 1) (nC (q.1.2.map Prod.snd))]) (fun q=>L.length - q.1.1) ⟨(0,[]),az _,hnx⟩ (cA [] (kp [0,1]) bX (fun r hr=>absurd hr (bm r)) ?_ ?_ ?_) ?_
   .simp only [wS,simprocAttr,dL,iD,and_true,true_or,fV,nC,bu,eI]
    exact ⟨.toRsv,.toRsv⟩
   .simp only [bg,bz,ab,ac,aI,ae];exact ⟨aB hst,aB hLt,aB hFt,bU rfl,bU rfl⟩
   .simp only [wS,simprocAttr,fV,nC,bu,eG]
    simp only [hY,and_true]
   .rintro ⟨⟨i,A⟩,hi,hA⟩ K2 hK2
    try simp only at hi hA
    by_cases hit:i<L.length
    .have c2 : decide ((i : Int) < (((fV (L.map Prod.fst)).length : Nat) : Int)) = true := by simp; omega
     have e2:=aO (k:=i) hit (by omega)
     obtain ⟨p,hpx⟩:∃ p,L[i]? =some p:=⟨_,ah hit⟩
     obtain ⟨M,k0⟩:=p
     obtain ⟨hMl,hMs,hk0⟩:=hLm _ (aj hpx)
     simp only at hMl hMs hk0
     have gL:=G1 (l:=L.map Prod.fst) (i:=i) (M:=M) (by rw [bh,hpx];rfl)
     have gF:=aAN (l:=L.map Prod.snd) (i:=i) (k:=k0) (by rw [bh,hpx];rfl)
     have hi1:i<(fV (L.map Prod.fst)).length:=by omega
     have hi2:i<(nC (L.map Prod.snd)).length:=by omega
     have hd:L.drop i=(M,k0)::L.drop (i+1):=by
      obtain ⟨q1,q2⟩:=aq.1 hpx
      rw [cg q1,q2]
     rw [hd,ig,<- bj] at hA
     simp only at hA
     obtain ⟨B,hBq⟩:∃ B,B=A++rY M (S.drop k0) k0:=⟨_,rfl⟩
     rw [<- hBq] at hA
     have hBl:B.length<=1000000:=by
      have:=congrArg List.length hA
      rw [an] at this
      omega
     have hMt:=cX M
     have hMn:=jA M
     have hM2:=D3 M
     have kap:=fun (s:Si) (hs:s∈S)=>IY (M++[s]) (by simp;omega) (fun x hx=>by
      rcases bo.1 hx with hx|hx
      .exact hp x (hMs x hx)
      .rw [bd.1 hx];exact hp s hs)
     simp only [mV] at kap
     obtain ⟨MC,hMC⟩:∃ MC,mC M=MC:=⟨_,rfl⟩
     rw [hMC] at hMt hMn hM2 gL
     have hAtr1:=cS (A.map Prod.fst)
     have hAtr2:=gY (A.map Prod.snd)
     refine bB (f9 c1 c2 gL gF hi1 hi2)
     refine aJ (α:={r:Nat × List (List Si × Nat) // r.1<=S.length/\B=r.2++rY M (S.drop r.1) r.1}) (fun r=>[(0,.sl false SC),(1,.int .i64 (many:Nat)),(5,.sl false (fV (L.map Prod.fst))),(6,.sl false (nC (L.map Prod.snd))),(7,.int .i64 (n:Nat)),(8,rv 0 (r.1.2.length - 1) 1 (fV (r.1.2.map Prod.fst))),(9,rv 1 (r.1.2.length - 1) 1 (nC (r.1.2.map Prod.snd))),(10,.int .i64 (i:Nat)),(11,.int .i64 (r.1.1:Nat))]) (fun r=>[eX (r.1.2.length - 1) (fV (r.1.2.map Prod.fst)),eX (r.1.2.length - 1) (nC (r.1.2.map Prod.snd))]) (fun r=>S.length - r.1.1) ⟨(k0,A),hk0,hBq⟩ (Weak.ref ⟨?_,.inl ?_⟩) ?_
     .exact aZ
     .exact aZ
     .rintro ⟨⟨k,C⟩,hk,hC⟩ K3 hK3
      try simp only at hk hC
      by_cases hkt:k<S.length
      .have c3:decide ((k:Int)<((SC.length:Nat):Int))=true:=by simp;omega
       have e3:=aO (k:=k) hkt (by omega)
       obtain ⟨s,hs⟩:∃ s,S[k]? =some s:=⟨_,ah hkt⟩
       have hsm:=aj hs
       have gs:=hsg k s hs
       have hk1:k<SC.length:=by omega
       have hd3:S.drop k=s::S.drop (k+1):=by
        obtain ⟨q1,q2⟩:=aq.1 hs
        rw [cg q1,q2]
       rw [hd3,rY] at hC
       have kas:=kap s hsm
       have hXl:=G2 M s
       rw [hMC] at hXl
       have hXt:=cX (M++[s])
       have hX2:=D3 (M++[s])
       have hfl:MC.flatten++[AV.sl false (aT s.1),.int .i64 s.2]=(mC (M++[s])).flatten:=by rw [hXl];simp
       have hXn:(mC (M++[s])).length=MC.length+1:=by rw [hXl];simp
       have hfz:MC.flatten.length=MC.length*2:=dE hM2
       have hs1:fV ((C++[(M++[s],k+1)]).map Prod.fst)=fV (C.map Prod.fst)++[[.sl false (mC (M++[s]))]]:=by rw [dq,ay,bu,zD]
       have hs2:nC ((C++[(M++[s],k+1)]).map Prod.snd)=nC (C.map Prod.snd)++[[.int .i64 ((k+1:Nat):Nat)]]:=by rw [dq,nC,dq];rfl
       obtain ⟨CX,hCX⟩:∃ CX,mC (M++[s])=CX:=⟨_,rfl⟩
       rw [hCX] at kas hXt hfl hXn hX2 hs1
       have hCl:C.length<=1000000:=by
        have:=congrArg List.length hC
        rw [an] at this
        omega
       have hv1:(C++[(M++[s],k+1)]).length - 1=if fV (C.map Prod.fst)=[] then 0 else C.length - 1+1:=by
        have h:=ET (l:=fV (C.map Prod.fst))
        rw [j4,bp] at h
        rw [an,am,cj,<- h]
       have hv2:(C++[(M++[s],k+1)]).length - 1=if nC (C.map Prod.snd)=[] then 0 else C.length - 1+1:=by
        have h:=ET (l:=nC (C.map Prod.snd))
        rw [MG,bp] at h
        rw [an,am,cj,<- h]
       have hz1:=uR (C.map Prod.fst)
       have hz2:=ZI (C.map Prod.snd)
       have hl1:(fV (C.map Prod.fst)).length=C.length:=by rw [j4,bp]
       have hl2:(nC (C.map Prod.snd)).length=C.length:=by rw [MG,bp]
       by_cases hM0:MC=[]
       .subst hM0
        refine bB (f9 c3 gs hk1 c2 gL hi1)
        refine tR (sz:=2) (by':=32) (es:=[]) (new:=[]) (by kernel_rfl) rfl (by simp [cW]) (by decide) ?_
        simp only [wS,simprocAttr,c3,gs,hk1]
        refine bB (f9 c3 gs hk1 c2 gL hi1)
        refine fO (es:=[]) (sz:=2) (by':=32) (mm:=1) (new:=[.sl false (aT s.1),.int .i64 s.2]) (by kernel_rfl) rfl rfl (by simp [cW]) (by decide) (by decide) ?_
        refine aA
        refine gB
        refine ⟨by kernel_rfl,?_⟩
        refine Cont.go (by assumption) (cK (cA [2] (kp [0,1,3]) (l:=[(0,.sl false SC),(1,.int .i64 (many:Nat)),(5,.sl false (fV (L.map Prod.fst))),(6,.sl false (nC (L.map Prod.snd))),(7,.int .i64 (n:Nat)),(8,rv 0 (C.length - 1) 1 (fV (C.map Prod.fst))),(9,rv 1 (C.length - 1) 1 (nC (C.map Prod.snd))),(10,.int .i64 (i:Nat)),(11,.int .i64 (k:Nat)),(12,.ptr 3 0 0)]) (h:=[eX (C.length - 1) (fV (C.map Prod.fst)),eX (C.length - 1) (nC (C.map Prod.snd)),.none,.cells 0 [.sl false CX]]) bX (fun r hr=>absurd hr (bm r)) ?_ ?_ ?_) ?_)
        .simp only [wS,simprocAttr,dL,iD,and_true,true_or]
        .simp only [bg,bz,ab,ac,aI,ae];exact ⟨aB hst,aB hLt,aB hFt,bU rfl,bU rfl,rfl⟩
        .refine aA
         simp only [hY,and_true]
         exact ⟨kr rfl (bA (aB (cS _))) (by simp),kr rfl (bA (aB (gY _))) (by simp),.inl rfl,.inr ⟨rfl,by simp only [aG,aP,aI,ab];exact aB hXt,.inr ⟨.inl (by simp),.inr ⟨0,_,_,rfl,rfl,.inr (.osl (cs:=CX.flatten) (by simp) (by (simp only [wS,simprocAttr,aU,<- hfl];try exact rfl)) (by rw [hXn];try simp) hX2 (by rw [co,bx (by rw [dE hX2,hXn];first|exact ap _|simp)]) hXt),trivial⟩⟩⟩⟩
        cases hap:c6 (M++[s]) with
        |false=>
         rw [hap] at kas hC
         simp only [aw,if_false,ba] at hC
         refine c7 (bF c3 e3)
         refine hK3.go ⟨(k+1,C),hkt,hC⟩ aX (by simp only;omega)
         .exact aZ
         .exact aZ
         .intro z hz
          replace hz:=aC hz
          rcases hz with rfl|rfl|rfl|rfl|rfl|rfl|rfl|rfl|rfl<;>first|rfl|(simp only [aI];first|exact aB hst|exact aB hLt|exact aB hFt|exact bU rfl)
         .refine aS;try exact ⟨bA (aB (cS _)),bA (aB (gY _))⟩
        |true=>
         rw [hap] at kas hC
         simp only [if_true] at hC
         rw [<- bj] at hC
         repeat' (first|(refine cC ?_;simp only [wS,simprocAttr,c3,e3])|refine aM|refine iP ?_|refine cL (v':=(C++[(M++[s],k+1)]).length - 1) (es:=[[.sl false CX]]) (by':=24) (by kernel_rfl) aZ hv1 hz1 (by simp [cW]) (by simp) (by rw [hl1];simp only [am];omega) (gR ?_)|refine cL (v':=(C++[(M++[s],k+1)]).length - 1) (es:=[[.int .i64 ((k+1:Nat):Nat)]]) (by':=8) (by kernel_rfl) aZ hv2 hz2 (by simp [cW]) (by simp) (by rw [hl2];simp only [am];omega) (gR ?_))
         refine hK3.go ⟨(k+1,C++[(M++[s],k+1)]),hkt,hC⟩ aX (by simp only;omega)
         .simp only [wS,simprocAttr,hs1,hs2];try exact rfl
         .simp only [wS,simprocAttr,hs1,hs2];try exact rfl
         .intro z hz
          replace hz:=aC hz
          rcases hz with rfl|rfl|rfl|rfl|rfl|rfl|rfl|rfl|rfl<;>first|rfl|(simp only [aI];first|exact aB hst|exact aB hLt|exact aB hFt|exact bU rfl)
         .refine aS;try exact ⟨bA (aB (cS _)),bA (aB (gY _))⟩
       .have hMl0:MC.length≠0:=fun e=>hM0 (cu e)
        refine bB (f9 c3 gs hk1 c2 gL hi1)
        refine fO (es:=[]) (sz:=2) (by':=32) (mm:=MC.length) (new:=MC.flatten) (by kernel_rfl) rfl rfl (nH (cl.2 fun e he=>by simpa using hM2 e he)) hMl0 (by simp only [ak];omega) ?_
        simp only [wS,simprocAttr,c3,gs,hk1]
        refine bB (f9 c3 gs hk1 c2 gL hi1)
        refine lV (sz:=2) (by':=32) (mm:=1) (new:=[.sl false (aT s.1),.int .i64 s.2]) (by kernel_rfl) aZ (by first|omega|(simp only [ey,ba,ak];omega)) (by simp [cW]) (by first|omega|(simp only [ak];omega)) ?_
        refine aA
        refine gB
        refine ⟨by kernel_rfl,?_⟩
        refine Cont.go (by assumption) (cK (cA [2] (kp [0,1,3]) (l:=[(0,.sl false SC),(1,.int .i64 (many:Nat)),(5,.sl false (fV (L.map Prod.fst))),(6,.sl false (nC (L.map Prod.snd))),(7,.int .i64 (n:Nat)),(8,rv 0 (C.length - 1) 1 (fV (C.map Prod.fst))),(9,rv 1 (C.length - 1) 1 (nC (C.map Prod.snd))),(10,.int .i64 (i:Nat)),(11,.int .i64 (k:Nat)),(12,.ptr 3 0 0)]) (h:=[eX (C.length - 1) (fV (C.map Prod.fst)),eX (C.length - 1) (nC (C.map Prod.snd)),.none,.cells 0 [.sl false CX]]) bX (fun r hr=>absurd hr (bm r)) ?_ ?_ ?_) ?_)
        .simp only [wS,simprocAttr,dL,iD,and_true,true_or]
        .simp only [bg,bz,ab,ac,aI,ae];exact ⟨aB hst,aB hLt,aB hFt,bU rfl,bU rfl,rfl⟩
        .refine aA
         simp only [hY,and_true]
         exact ⟨kr rfl (bA (aB (cS _))) (by simp),kr rfl (bA (aB (gY _))) (by simp),.inl rfl,.inr ⟨rfl,by simp only [aG,aP,aI,ab];exact aB hXt,.inr ⟨.inl (by simp),.inr ⟨0,_,_,rfl,rfl,.inr (.osl (cs:=CX.flatten) (by simp) (by (simp only [wS,simprocAttr,aU,<- hfl];try exact rfl)) (by rw [hXn];try simp) hX2 (by rw [co,bx (by rw [dE hX2,hXn];first|exact ap _|simp)]) hXt),trivial⟩⟩⟩⟩
        cases hap:c6 (M++[s]) with
        |false=>
         rw [hap] at kas hC
         simp only [aw,if_false,ba] at hC
         refine c7 (bF c3 e3)
         refine hK3.go ⟨(k+1,C),hkt,hC⟩ aX (by simp only;omega)
         .exact aZ
         .exact aZ
         .intro z hz
          replace hz:=aC hz
          rcases hz with rfl|rfl|rfl|rfl|rfl|rfl|rfl|rfl|rfl<;>first|rfl|(simp only [aI];first|exact aB hst|exact aB hLt|exact aB hFt|exact bU rfl)
         .refine aS;try exact ⟨bA (aB (cS _)),bA (aB (gY _))⟩
        |true=>
         rw [hap] at kas hC
         simp only [if_true] at hC
         rw [<- bj] at hC
         repeat' (first|(refine cC ?_;simp only [wS,simprocAttr,c3,e3])|refine aM|refine iP ?_|refine cL (v':=(C++[(M++[s],k+1)]).length - 1) (es:=[[.sl false CX]]) (by':=24) (by kernel_rfl) aZ hv1 hz1 (by simp [cW]) (by simp) (by rw [hl1];simp only [am];omega) (gR ?_)|refine cL (v':=(C++[(M++[s],k+1)]).length - 1) (es:=[[.int .i64 ((k+1:Nat):Nat)]]) (by':=8) (by kernel_rfl) aZ hv2 hz2 (by simp [cW]) (by simp) (by rw [hl2];simp only [am];omega) (gR ?_))
         refine hK3.go ⟨(k+1,C++[(M++[s],k+1)]),hkt,hC⟩ aX (by simp only;omega)
         .simp only [wS,simprocAttr,hs1,hs2];try exact rfl
         .simp only [wS,simprocAttr,hs1,hs2];try exact rfl
         .intro z hz
          replace hz:=aC hz
          rcases hz with rfl|rfl|rfl|rfl|rfl|rfl|rfl|rfl|rfl<;>first|rfl|(simp only [aI];first|exact aB hst|exact aB hLt|exact aB hFt|exact bU rfl)
         .refine aS;try exact ⟨bA (aB (cS _)),bA (aB (gY _))⟩
      .have c3:decide ((k:Int)<((SC.length:Nat):Int))=false:=by simp;omega
       have hk':k=S.length:=by omega
       rw [hk',du,rY,br] at hC
       subst hC
       subst hk'
       refine bB (bF c3 e2)
       refine hK2.go ⟨(i+1,B),hit,hA⟩ aX (by simp only;omega)
       .exact aZ
       .exact aZ
       .intro z hz
        replace hz:=aC hz
        rcases hz with rfl|rfl|rfl|rfl|rfl|rfl|rfl|rfl<;>first|rfl|(simp only [aI];first|exact aB hst|exact aB hLt|exact aB hFt|exact bU rfl)
       .refine aS;try exact ⟨bA (aB (cS _)),bA (aB (gY _))⟩
    .have c2:decide ((i:Int)<(((fV (L.map Prod.fst)).length:Nat):Int))=false:=by simp;omega
     have hi':i=L.length:=by omega
     have hA':lv S (n+1)=A:=by rw [hA,hi',du,gv,br]
     refine bB (bF c2 e1)
     refine hK.go ⟨n+1,hlt⟩ (cA [0,1] (kp []) bX (fun r hr=>absurd hr (bm r)) ?_ ?_ ?_) (by simp only;omega)
     .simp only [wS,simprocAttr,dL,iD,and_true,true_or,hA']
      exact ⟨.inr (eA (r:=0) (v:=A.length - 1) rfl cy (uR _) (cS _)),.inr (eA (r:=1) (v:=A.length - 1) rfl (dn _ cy) (ZI _) (gY _))⟩
     .simp only [bg,bz,ab,ac,aI,ae];exact ⟨aB hst,aB (cS _),aB (gY _)⟩
     .refine aA
      simp only [hY,and_true]
      exact ⟨rfl,rfl⟩
  .have c1:decide ((n:Int)<(many:Int))=false:=by simp;omega
   obtain rfl:n=many:=by omega
   subst hL
   refine cP c1
   refine Cont.go (by assumption) ?_
   refine aF
   refine aD rfl ?_
   refine aA
end Go.Proofs.YtggflhbigolakaaGreatDoor
