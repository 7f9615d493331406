import Derived.Test.YtggflhbigolakaaGreatDoorUD
import Derived.Test.YtggflhbigolakaaGreatDoorEK
import Derived.Test.YtggflhbigolakaaGreatDoorES
set_option linter.unusedSimpArgs false
namespace Go.Proofs.YtggflhbigolakaaGreatDoor
open Go.AM
attribute [local irreducible] cG bG bI bL bW bZ aQ aV bN
set_option maxRecDepth 100000
theorem VM (f:List Si->ByteArray):∀ (l:List (List Si)) (a:List ByteArray × List (List Si)),a.2.length<=(kB f l a).2.length
 | [],a=>ap _
 |m::l,a=>by
  have:=VM f l (HD f a m)
  have h:a.2.length<=(HD f a m).2.length:=by
   rw [HD];split
   .omega
   .simp
  rw [kB,gr,<- kB];omega
def jD (f:List Si->ByteArray) (S:List Si):Nat->List ByteArray × List (List Si)
 |0=>([],[])
 |i+1=>kB f ((lv S (i+1)).map Prod.fst) (jD f S i)
set_option maxHeartbeats 16000000 in
theorem aAx (c:T) (hc:T.size c<=1000000000) (O:List hI) (hO:∀ o∈O,wJ o) (S:List Si) (od:Nat) (hod:od<=3) (f:List Si->ByteArray)
  (ks:Pure Tryz.prog G0 36 [.agg (T.enc c),.sl false (O.map eE)] (.sl false (mC S)))
  (hS:S.length<=1000000) (hsp:∀ s∈S,s.1.length<=1000000000) (hB:∀ n,n<=od->(lv S n).length<=1000000)
  (hf:∀ i,i<od->∀ m∈(lv S (i+1)).map Prod.fst,f m=T.key (oP c O m))
  (hL:∀ i,i<od->∀ m∈(lv S (i+1)).map Prod.fst,T.size (oP c O m)<=500000000000/\T.rg (oP c O m)/\m.length<=1000/\∀ s∈m,s.1.length<=1000000000)
  (hb:∀ i,i<=od->(jD f S i).2.length<=512):
  Pure Tryz.prog G0 21 [.agg (T.enc c),.sl false (O.map eE),.int .i64 (od:Nat)] (.tup [.sl false (fV (jD f S od).2),.int .i64 0]):=by
 have hRt:=cS (jD f S od).2
 have hct:=T.enc_tree c
 have hOt:=dH O
 have hst:=cX S
 have kch:=fun i (hi:i<od)=>aB7 S hS (fun s hs=>by have:=hsp s hs;omega) (i+1) (by omega) (fun n hn=>hB n (by omega))
 obtain ⟨ca,cb,cc,cd,hce⟩:=aN c
 have kmk:=fun m hm1 hm2=>XP c (by omega) O (fun o ho=>(hO o ho).1) m hm1 hm2
 rw [hce] at ks kmk hct ⊢
 have hct':cQ aE cd=true:=by simpa only [aP,aI,ac,ab] using hct
 have c0:decide ((od:Int)<0)=false:=by rw [decide_eq_false_iff_not];omega
 have c3:decide ((3:Int)<(od:Int))=false:=by rw [decide_eq_false_iff_not];omega
 refine aL bX Tryz.func21 rfl (by kernel_rfl) (by simp [Tryz.ntmps21]) (by simp only [aP,aI,hct',hOt,ai]) (by simp only [aI,aP,hRt,ai]) ?_
 simp only [Tryz.ntmps21,aK,Nat.reduceAdd]
 refine jH ?_
 refine dM (bF c0 c3)
 refine aJ (α:={i:Nat // i<=od}) (fun i=>[(1,.sl false (O.map eE)),(2,.int .i64 (od:Nat)),(3,.ptr 0 0 0),(8,.sl false (mC S)),(9,rv 2 ((jD f S i.1).2.length - 1) 1 (fV (jD f S i.1).2)),(10,.omp 1),(11,.int .i64 ((i.1+1:Nat):Nat))]) (fun i=>[.cells 0 [.int .i64 ca,.int .i64 cb,.int .i64 cc,.sl false cd],.map (kS (jD f S i.1).1) (vS (jD f S i.1).1),eX ((jD f S i.1).2.length - 1) (fV (jD f S i.1).2)]) (fun i=>od - i.1) ⟨0,az _⟩ (cA [] (kp [0,1,2]) bX (fun r hr=>absurd hr (bm r)) ?_ ?_ ?_) ?_
 .simp only [wS,simprocAttr,dL,iD,and_true,true_or,jD,fV,bu,eI];try exact .toRsv
 .simp only [bg,bz,ab,ac,aI,ae];exact ⟨aB hOt,rfl,aB hst,bU rfl,rfl⟩
 .simp only [wS,simprocAttr,jD,fV,kS,vS,bu,eG]
  simp only [hY,and_true]
  exact ⟨kr rfl (by simp only [aG,aP,aI,ac,ab];exact aB hct') (by simp),kr rfl rfl (by simp)⟩
 .rintro ⟨i,hi⟩ K hK
  try simp only at hi
  have hbi:=hb i hi
  by_cases hlt:i<od
  .have c1:decide (((i+1:Nat):Int)<=(od:Int))=true:=by simp;omega
   have e1:=aO (k:=i+1) (m:=od+1) (by omega) (by omega)
   have kc:=kch i hlt
   have hnx:jD f S (i+1)=kB f ((lv S (i+1)).map Prod.fst) (jD f S i):=rfl
   have hfi:=hf i hlt
   have hLi:=hL i hlt
   have hbn:=hb (i+1) hlt
   obtain ⟨L,hLL⟩:∃ L,L=(lv S (i+1)).map Prod.fst:=⟨_,rfl⟩
   rw [<- hLL] at kc hnx hfi hLi
   have hLn:L.length<=1000000:=by rw [hLL,bp];exact hB _ hlt
   have hLt:=cS L
   have hLc:=j4 L
   refine c7 c1
   refine aJ (α:={q:Nat × (List ByteArray × List (List Si)) // q.1<=L.length/\jD f S (i+1)=kB f (L.drop q.1) q.2}) (fun q=>[(1,.sl false (O.map eE)),(2,.int .i64 (od:Nat)),(3,.ptr 0 0 0),(8,.sl false (mC S)),(9,rv 2 (q.1.2.2.length - 1) 1 (fV q.1.2.2)),(10,.omp 1),(11,.int .i64 ((i+1:Nat):Nat)),(12,.sl false (fV L)),(13,.int .i64 (q.1.1:Nat))]) (fun q=>[.cells 0 [.int .i64 ca,.int .i64 cb,.int .i64 cc,.sl false cd],.map (kS q.1.2.1) (vS q.1.2.1),eX (q.1.2.2.length - 1) (fV q.1.2.2)]) (fun q=>L.length - q.1.1) ⟨(0,jD f S i),az _,hnx⟩ (Weak.ref ⟨?_,.inl ?_⟩) ?_
   .exact aZ
   .exact aZ
   .rintro ⟨⟨j,met,out⟩,hj,hA⟩ K2 hK2
    try simp only at hj hA
    have hol:out.length<=512:=by
     have:=VM f (L.drop j) (met,out)
     rw [<- hA] at this
     simp only at this
     omega
    by_cases hjt:j<L.length
    .have c2:decide ((j:Int)<(((fV L).length:Nat):Int))=true:=by simp;omega
     have e2:=aO (k:=j) hjt (by omega)
     obtain ⟨m,hm⟩:∃ m,L[j]? =some m:=⟨_,ah hjt⟩
     have hmL:=aj hm
     have gL:=G1 hm
     have hj1:j<(fV L).length:=by omega
     obtain ⟨g1,g2,g3,g4⟩:=hLi m hmL
     have km:=kmk m (by omega) (fun s hs=>by have:=g4 s hs;omega)
     obtain ⟨e,he⟩:=JI c O m
     rw [he] at km
     have ke:=QK _ (oP c O m) (ap _) g1 g2
     have hbo:=r7 (T.bytes (oP c O m))
     have hu:YL Tryz.prog 5=true:=by kernel_rfl
     have hfm:pQ (T.bytes (oP c O m))=f m:=(hfi m hmL).symm
     have hd:L.drop j=m::L.drop (j+1):=by
      obtain ⟨q1,q2⟩:=aq.1 hm
      rw [cg q1,q2]
     rw [hd,kB,gr,<- kB,HD] at hA
     simp only at hA
     have hmt:=cX m
     have hxt:=T.enc_tree (oP c O m)
     obtain ⟨xa,xb,xc,xd,hx⟩:=aN (oP c O m)
     rw [hx] at km ke hxt
     have hmol:=j4 out
     have hmo1:=uR out
     have hsn:=zD out m
     have hvv:(out++[m]).length - 1=if fV out=[] then 0 else out.length - 1+1:=by
      have h:=ET (l:=fV out)
      rw [j4] at h
      rw [an,am,cj,<- h]
     have hk1:kS (met++[f m])=kS met++[.str (f m)]:=MU _ _
     have hv1:vS (met++[f m])=vS met++[.bool true]:=LQ _ _
     simp only [mV] at km
     generalize mC m=MC at km hmt hsn gL
     generalize cB (T.bytes (oP c O m))=CB at ke hbo
     generalize T.bytes (oP c O m)=bb at hbo hfm
     generalize f m=fm at hfm hk1 hv1 hA
     by_cases hin:WQ met fm=true
     .obtain ⟨q,hq1,hq2⟩:=jT met fm 0 (j7.1 hin)
      rw [cp] at hq1
      have hv:=LO hq2
      rw [if_pos hin] at hA
      repeat' (first|(refine cC ?_;simp only [wS,simprocAttr,c1,c2,gL,hj1,iL,bf,be,hbo,hu,hfm,dv,↓pK,↓kU,hq1,hv,e2])|refine aM|refine iP ?_|fail)
      refine hK2.go ⟨(j+1,met,out),hjt,hA⟩ aX (by simp only;omega)
      .exact aZ
      .exact aZ
      .intro z hz
       replace hz:=aC hz
       rcases hz with rfl|rfl|rfl|rfl|rfl|rfl|rfl|rfl|rfl<;>first|rfl|(simp only [aI];first|exact aB hOt|exact aB hst|exact aB hLt|exact bU rfl)
      .refine aS;try exact ⟨by simp only [aG,aP,aI,ac,ab];exact aB hct',by simp only [aG,ae];exact ⟨bE (iV _),bE (iQ _)⟩,bA (aB (cS _))⟩
     .have hq1:=iM met fm 0 (fun h=>hin (j7.2 h))
      rw [if_neg hin] at hA
      repeat' (first|(refine cC ?_;simp only [wS,simprocAttr,c1,c2,gL,hj1,iL,bf,be,hbo,hu,hfm,dv,↓pK,↓kU,hq1,e2])|refine aM|refine iP ?_|refine cL (v':=(out++[m]).length - 1) (es:=[[.sl false MC]]) (by':=24) (by kernel_rfl) aZ hvv hmo1 (by simp [cW]) (by simp) (by rw [hmol];simp only [am];omega) (gR ?_))
      refine hK2.go ⟨(j+1,met++[fm],out++[m]),hjt,hA⟩ aX (by simp only;omega)
      .simp only [wS,simprocAttr,hsn,hk1,hv1];try exact rfl
      .simp only [wS,simprocAttr,hsn,hk1,hv1];try exact rfl
      .intro z hz
       replace hz:=aC hz
       rcases hz with rfl|rfl|rfl|rfl|rfl|rfl|rfl|rfl|rfl<;>first|rfl|(simp only [aI];first|exact aB hOt|exact aB hst|exact aB hLt|exact bU rfl)
      .refine aS;try exact ⟨by simp only [aG,aP,aI,ac,ab];exact aB hct',by simp only [aG,ae];exact ⟨bE (iV _),bE (iQ _)⟩,bA (aB (cS _))⟩
    .have c2:decide ((j:Int)<(((fV L).length:Nat):Int))=false:=by simp;omega
     have hA':jD f S (i+1)=(met,out):=by rw [hA,dz (by omega)];rfl
     refine bB (bF c2 e1)
     refine hK.go ⟨i+1,hlt⟩ aX (by simp only;omega)
     .simp only [wS,simprocAttr,hA'];try exact rfl
     .simp only [wS,simprocAttr,hA'];try exact rfl
     .intro z hz
      replace hz:=aC hz
      rcases hz with rfl|rfl|rfl|rfl|rfl|rfl|rfl<;>first|rfl|(simp only [aI];first|exact aB hOt|exact aB hst|exact aB hLt|exact bU rfl)
     .refine aS;try exact ⟨by simp only [aG,aP,aI,ac,ab];exact aB hct',by simp only [aG,ae];exact ⟨bE (iV _),bE (iQ _)⟩,bA (aB (cS _))⟩
  .have c1:decide (((i+1:Nat):Int)<=(od:Int))=false:=by simp;omega
   have hio:i=od:=by omega
   subst hio
   have hLn:∀ rows:Nat->ARow,rows 2=eX ((jD f S i).2.length - 1) (fV (jD f S i).2)->uD Tryz.prog 34 (rv 2 ((jD f S i).2.length - 1) 1 (fV (jD f S i).2)) rows=some (.int .i64 ((fV (jD f S i).2).length:Nat)):=fun rows h=>H5 (et:=31) (by kernel_rfl) h
   have c5:decide ((512:Int)<(((fV (jD f S i).2).length:Nat):Int))=false:=by
    rw [decide_eq_false_iff_not,j4];omega
   repeat' (first|(refine cC ?_;simp only [wS,simprocAttr,c1,c5,↓hLn,↓pK,↓kU])|refine aM|fail)
   refine ⟨⟨eJ [(6,.sl false (fV (jD f S i).2)),(7,.int .i64 0)],[]⟩,cA [0,1,2] (kp []) bX (fun r hr=>absurd hr (bm r)) ?_ ?_ ?_,eS rfl ?_⟩
   .simp only [wS,simprocAttr,dL,iD,and_true,true_or]
    exact .inr (eA (r:=2) (v:=(jD f S i).2.length - 1) rfl (by simp) (uR _) (cS _))
   .simp only [bg,bz,ab,ac,aI,ae];exact aB (cS _)
   .refine aA
    simp only [hY,and_true]
    exact ⟨rfl,rfl,rfl⟩
   .refine aA
end Go.Proofs.YtggflhbigolakaaGreatDoor
