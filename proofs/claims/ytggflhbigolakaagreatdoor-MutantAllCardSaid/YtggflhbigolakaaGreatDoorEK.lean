import Derived.Test.YtggflhbigolakaaGreatDoorEI
import Derived.Test.YtggflhbigolakaaGreatDoorUD
set_option linter.unusedVariables false
set_option linter.unusedSimpArgs false
namespace Go.Proofs.YtggflhbigolakaaGreatDoor
open Go.AM
attribute [local irreducible] cG bG bI bL bW bZ aQ aV bN
set_option maxRecDepth 100000
section
variable (c:T) (hc:T.size c<=1000000000) (O:List hI) (hO:∀ o∈O,wJ o) (S:List Si) (od mi many:Nat) (f:List Si->ByteArray) (L:List (List Si)) (a:List ByteArray × List (List Si))
 (hf:∀ m∈L,f m=T.key (oP c O m)) (hL:∀ m∈L,T.size (oP c O m)<=500000000000/\T.rg (oP c O m)/\m.length<=1000/\∀ s∈m,s.1.length<=1000000000) (hb:a.2.length+L.length<=511)
include hc hO hf hL hb
set_option maxHeartbeats 16000000 in
theorem RI [i6] (k:Nat) (hk:k<L.length) (rows:Nat->ARow) (hrw:∀ r,r<8->rows r=AA c (O.map eE) (mC S) od mi (.fn (.func 86) [] [.imm [.int .i64 (many:Nat)],.imm [.sl false (mC S)]]) f L a k r) (cd:Code) (hcd:Tryz.f20.body=some cd) (z:Array Tmp × Code × Code) (hz:rA cd=some z):
  cG Tryz.prog G0 61 8 z.2.1 (fun e s1=>e=.normal/\∃ fr1 ps1 a1 b1,s1.row 7=.loop .ready none fr1 ps1 a1 b1/\
   cG Tryz.prog G0 61 8 z.2.2 (fun e s2=>∃ jump fr2 ps2 a2 b2,zI e=some jump/\s2.row 7=.loop .busy none fr2 ps2 a2 b2/\AV.bool true=.bool jump.isNone/\
    ∀ q∈([0,1,2,3,4,5,6,7]:List Nat),upd s2.row [(7,.loop (if jump.isNone then .ready else .done) jump fr2 ps2 a2 b2)] q=upd rows (oI (AA c (O.map eE) (mC S) od mi (.fn (.func 86) [] [.imm [.int .i64 (many:Nat)],.imm [.sl false (mC S)]]) f L a (k+1))) q/\aG (fun r=>([0,1,2,3,4,5,6,7]:List Nat).contains r) (upd s2.row [(7,.loop (if jump.isNone then .ready else .done) jump fr2 ps2 a2 b2)] q)=true)
    (s1.wr [(7,.loop .busy none fr1 ps1 a1 b1)])) ⟨eJ [(3,.imm (T.enc c)),(4,.imm [.sl false (O.map eE)]),(6,.ptr 2 0 0),(7,.ptr 3 0 0),(8,.sl false (mC S)),(9,.ptr 5 0 0),(10,.ptr 6 0 0),(29,.int .i64 (od:Nat)),(30,.int .i64 (mi:Nat)),(36,.fn (.func 86) [] [.imm [.int .i64 (many:Nat)],.imm [.sl false (mC S)]]),(37,mV (L.getD k [])),(60,.undef)],[AA c (O.map eE) (mC S) od mi (.fn (.func 86) [] [.imm [.int .i64 (many:Nat)],.imm [.sl false (mC S)]]) f L a k 0,AA c (O.map eE) (mC S) od mi (.fn (.func 86) [] [.imm [.int .i64 (many:Nat)],.imm [.sl false (mC S)]]) f L a k 1,AA c (O.map eE) (mC S) od mi (.fn (.func 86) [] [.imm [.int .i64 (many:Nat)],.imm [.sl false (mC S)]]) f L a k 2,AA c (O.map eE) (mC S) od mi (.fn (.func 86) [] [.imm [.int .i64 (many:Nat)],.imm [.sl false (mC S)]]) f L a k 3,AA c (O.map eE) (mC S) od mi (.fn (.func 86) [] [.imm [.int .i64 (many:Nat)],.imm [.sl false (mC S)]]) f L a k 4,AA c (O.map eE) (mC S) od mi (.fn (.func 86) [] [.imm [.int .i64 (many:Nat)],.imm [.sl false (mC S)]]) f L a k 5,AA c (O.map eE) (mC S) od mi (.fn (.func 86) [] [.imm [.int .i64 (many:Nat)],.imm [.sl false (mC S)]]) f L a k 6,AA c (O.map eE) (mC S) od mi (.fn (.func 86) [] [.imm [.int .i64 (many:Nat)],.imm [.sl false (mC S)]]) f L a k 7]⟩:=by
 obtain rfl:_=cd:=ir hcd
 clear hcd
 simp only [rA] at hz
 obtain rfl:_=z:=ir hz
 clear hz
 obtain ⟨m,hm⟩:∃ m,L[k]? =some m:=⟨_,ah hk⟩
 have hmL:=aj hm
 have hgd:L.getD k []=m:=by rw [bc,hm];rfl
 obtain ⟨hm1,hm2,hm3,hm4⟩:=hL m hmL
 have kmk:=aAS c (by omega) O (fun o ho=>(hO o ho).1) m (by omega) (fun s hs=>by have:=hm4 s hs;omega)
 obtain ⟨e,he⟩:=JI c O m
 rw [he] at kmk
 have kke:=ZJ (oP c O m) hm1 hm2
 rw [<- hf m hmL] at kke
 have hmt:=cX m
 have hct:=T.enc_tree c
 have hOt:=dH O
 have hSt:=cX S
 have hxt:=T.enc_tree (oP c O m)
 have htk:=VL f hm a
 have hol:=tT f (L.take k) a
 rw [cr] at hol
 have hrk:∀ r,r<8->AA c (O.map eE) (mC S) od mi (.fn (.func 86) [] [.imm [.int .i64 (many:Nat)],.imm [.sl false (mC S)]]) f L a (k+1) r=([eX ((kB f (L.take (k+1)) a).2.length - 1) (fV (kB f (L.take (k+1)) a).2),.none,.cells 0 [.sl true []],.cells 0 [.int .i64 0],.map (kS (kB f (L.take (k+1)) a).1) (vS (kB f (L.take (k+1)) a).1),.cells 0 [.omp 4],.cells 0 [rv 0 ((kB f (L.take (k+1)) a).2.length - 1) 1 (fV (kB f (L.take (k+1)) a).2)],LPA c (O.map eE) (mC S) od mi (.fn (.func 86) [] [.imm [.int .i64 (many:Nat)],.imm [.sl false (mC S)]])]:List ARow).getD r .none:=fun r h=>by
  have:r=0\/r=1\/r=2\/r=3\/r=4\/r=5\/r=6\/r=7:=by omega
  rcases this with rfl|rfl|rfl|rfl|rfl|rfl|rfl|rfl<;>rfl
 rw [hgd]
 simp only [AA]
 simp only [mV] at kmk ⊢
 rcases hdd:kB f (L.take k) a with ⟨met,out⟩
 rw [hdd] at htk hol
 rw [HD] at htk
 simp only at htk hol ⊢
 have YP:=WK c O S od mi many (fun r=>([0,1,2,3,4,5,6,7]:List Nat).contains r) (fun r h=>by simp;omega)
 have hLP:∃ fr ps a b,LPA c (O.map eE) (mC S) od mi (.fn (.func 86) [] [.imm [.int .i64 (many:Nat)],.imm [.sl false (mC S)]])=.loop .ready none fr ps a b:=⟨_,_,_,_,rfl⟩
 generalize LPA c (O.map eE) (mC S) od mi (.fn (.func 86) [] [.imm [.int .i64 (many:Nat)],.imm [.sl false (mC S)]])=LW at hrk YP hLP ⊢
 obtain ⟨FR,pv,av,bv,rfl⟩:=hLP
 have hrow:∀ (met':List ByteArray) (out':List (List Si)) (R:Nat->ARow),kB f (L.take (k+1)) a=(met',out')->(∀ r,r<7->R r=([eX (out'.length - 1) (fV out'),.none,.cells 0 [.sl true []],.cells 0 [.int .i64 0],.map (kS met') (vS met'),.cells 0 [.omp 4],.cells 0 [rv 0 (out'.length - 1) 1 (fV out')],.none]:List ARow).getD r .none)->∀ q∈([0,1,2,3,4,5,6,7]:List Nat),(if q=7 then ARow.loop (if (none:Option Code).isNone=true then LoopState.ready else LoopState.done) none FR pv av bv else R q)=upd rows (oI (AA c (O.map eE) (mC S) od mi (.fn (.func 86) [] [.imm [.int .i64 (many:Nat)],.imm [.sl false (mC S)]]) f L a (k+1))) q/\aG (fun r=>([0,1,2,3,4,5,6,7]:List Nat).contains r) (if q=7 then ARow.loop (if (none:Option Code).isNone=true then LoopState.ready else LoopState.done) none FR pv av bv else R q)=true:=fun met' out' R hd hs q hq=>by
  rw [hd] at hrk
  simp only at hrk
  have h7:q=7\/q<7:=by simp at hq;omega
  rcases h7 with rfl|h7
  .refine ⟨?_,?_⟩
   .rw [oI];simp only [upd,if_true,hrk 7 (by decide)];rfl
   .simp only [upd,if_true];exact YP
  .rw [if_neg (by omega),hs q h7]
   have:q=0\/q=1\/q=2\/q=3\/q=4\/q=5\/q=6:=by omega
   have hA:=hrk q (by omega)
   rcases this with rfl|rfl|rfl|rfl|rfl|rfl|rfl
   .exact ⟨by simp only [oI,upd,if_true,if_false,hA,Nat.reduceEqDiff,reduceCtorEq];try rfl,bA (aB (cS _))⟩
   .exact ⟨by simp only [oI,upd,if_true,if_false,hA,Nat.reduceEqDiff,reduceCtorEq];try rfl,rfl⟩
   .exact ⟨by simp only [oI,upd,if_true,if_false,hA,Nat.reduceEqDiff,reduceCtorEq];try rfl,rfl⟩
   .exact ⟨by simp only [oI,upd,if_true,if_false,hA,Nat.reduceEqDiff,reduceCtorEq];try rfl,rfl⟩
   .exact ⟨by simp only [oI,upd,if_true,if_false,hA,Nat.reduceEqDiff,reduceCtorEq];try rfl,by
     show aG _ (.map (kS met') (vS met'))=true
     simp only [aG,ae];exact ⟨bE (iV _),bE (iQ _)⟩⟩
   .exact ⟨by simp only [oI,upd,if_true,if_false,hA,Nat.reduceEqDiff,reduceCtorEq];try rfl,rfl⟩
   .exact ⟨by simp only [oI,upd,if_true,if_false,hA,Nat.reduceEqDiff,reduceCtorEq];try rfl,by
     show aG _ (.cells 0 [rv 0 (out'.length - 1) 1 (fV out')])=true
     simp only [aG,aP,ab];exact bU rfl⟩
 have hmol:=j4 out
 have hmo1:=uR out
 have hsn:=zD out m
 have hvv:(out++[m]).length - 1=if fV out=[] then 0 else out.length - 1+1:=by
  rw [an,am]
  by_cases h:fV out=[]
  .rw [if_pos h]
   have:=congrArg List.length h
   rw [hmol] at this
   simp at this;simp [this]
  .rw [if_neg h]
   have:out.length≠0:=fun e=>h (by rw [cu e];rfl)
   omega
 have c5:((((fV out).length:Nat):Int)==512)=false:=by rw [beq_eq_false_iff_ne];omega
 have hLn:∀ rows:Nat->ARow,rows 0=eX (out.length - 1) (fV out)->uD Tryz.prog 34 (rv 0 (out.length - 1) 1 (fV out)) rows=some (.int .i64 ((fV out).length:Nat)):=fun rows h=>H5 (et:=31) (by kernel_rfl) h
 have hk1:kS (met++[f m])=kS met++[.str (f m)]:=MU _ _
 have hv1:vS (met++[f m])=vS met++[.bool true]:=LQ _ _
 generalize f m=ks at kke htk hk1 hv1
 generalize mC m=MC at kmk hmt hsn ⊢
 obtain ⟨xa,xb,xc,xd,hx⟩:=aN (oP c O m)
 rw [hx] at kmk kke hxt
 obtain ⟨ca,cb,cc,cd,hce⟩:=aN c
 rw [hce] at kmk hct ⊢
 refine aF
 refine ⟨FR,pv,av,bv,?_,?_⟩
 .exact aZ
 (try simp only [wS,simprocAttr])
 by_cases hin:WQ met ks=true
 .obtain ⟨j,hj1,hj2⟩:=jT met ks 0 (j7.1 hin)
  rw [cp] at hj1
  have hv:=LO hj2
  rw [if_pos hin] at htk
  repeat' (first|(refine cC ?_;simp only [wS,simprocAttr,iL,bf,be,c5,↓hLn,↓pK,↓kU,hj1,hv])|refine aM|refine iP ?_|fail)
  refine ⟨none,FR,pv,av,bv,rfl,?_,rfl,hrow met out _ htk fun r h=>?_⟩
  .exact aZ
  .have:r=0\/r=1\/r=2\/r=3\/r=4\/r=5\/r=6:=by omega
   rcases this with rfl|rfl|rfl|rfl|rfl|rfl|rfl<;>((try simp only [wS,simprocAttr]);try exact rfl)
 .have hj1:=iM met ks 0 (fun h=>hin (j7.2 h))
  rw [if_neg hin] at htk
  repeat' (first|(refine cC ?_;simp only [wS,simprocAttr,iL,bf,be,c5,↓hLn,↓pK,↓kU,hj1])|refine aM|refine iP ?_|refine cL (v':=(out++[m]).length - 1) (es:=[[.sl false MC]]) (by':=24) (by kernel_rfl) aZ hvv hmo1 (by simp [cW]) (by simp) (by rw [hmol];simp only [am];omega) (gR ?_))
  refine ⟨none,FR,pv,av,bv,rfl,?_,rfl,hrow _ _ _ htk fun r h=>?_⟩
  .exact aZ
  .have:r=0\/r=1\/r=2\/r=3\/r=4\/r=5\/r=6:=by omega
   rcases this with rfl|rfl|rfl|rfl|rfl|rfl|rfl<;>((try simp only [wS,simprocAttr,hk1,hv1,hsn]);try exact rfl)
end
theorem XV:∀ cd,Tryz.f20.body=some cd->rA cd=some XW:=fun cd h=>by
 obtain rfl:=ir h
 kernel_rfl
section
variable (c:T) (hc:T.size c<=1000000000) (O:List hI) (hO:∀ o∈O,wJ o) (S:List Si) (od mi many:Nat) (f:List Si->ByteArray) (L:List (List Si)) (a:List ByteArray × List (List Si))
theorem ZU (k:Nat):∀ r,r<8->aG tP (AA c (O.map eE) (mC S) od mi (.fn (.func 86) [] [.imm [.int .i64 (many:Nat)],.imm [.sl false (mC S)]]) f L a k r)=true:=fun r hr=>by
 have:r=0\/r=1\/r=2\/r=3\/r=4\/r=5\/r=6\/r=7:=by omega
 rcases this with rfl|rfl|rfl|rfl|rfl|rfl|rfl|rfl
 .exact bA (aB (cS _))
 .rfl
 .rfl
 .rfl
 .show aG _ (.map (kS _) (vS _))=true
  simp only [aG,ae];exact ⟨bE (iV _),bE (iQ _)⟩
 .rfl
 .show aG _ (.cells 0 [rv _ _ _ _])=true
  simp only [aG,aP,ab];exact bU rfl
 .exact WK c O S od mi many _ (fun r h=>by simp [tP];omega)
variable (hf:∀ m∈L,f m=T.key (oP c O m)) (hL:∀ m∈L,T.size (oP c O m)<=500000000000/\T.rg (oP c O m)/\m.length<=1000/\∀ s∈m,s.1.length<=1000000000) (hb:a.2.length+L.length<=511)
include hc hO hf hL hb
theorem RH:WF (fun k r=>AA c (O.map eE) (mC S) od mi (.fn (.func 86) [] [.imm [.int .i64 (many:Nat)],.imm [.sl false (mC S)]]) f L a k r) (fun k=>L.getD k []) L.length L.length where
 ins:=ZU c O S od mi many f L a
 yld:=fun k hk _ rows hr8=>by
  rw [decide_eq_true hk]
  have e7:XW.1= #[37]:=by kernel_rfl
  refine l5 (H:=[AA c (O.map eE) (mC S) od mi (.fn (.func 86) [] [.imm [.int .i64 (many:Nat)],.imm [.sl false (mC S)]]) f L a k 0,AA c (O.map eE) (mC S) od mi (.fn (.func 86) [] [.imm [.int .i64 (many:Nat)],.imm [.sl false (mC S)]]) f L a k 1,AA c (O.map eE) (mC S) od mi (.fn (.func 86) [] [.imm [.int .i64 (many:Nat)],.imm [.sl false (mC S)]]) f L a k 2,AA c (O.map eE) (mC S) od mi (.fn (.func 86) [] [.imm [.int .i64 (many:Nat)],.imm [.sl false (mC S)]]) f L a k 3,AA c (O.map eE) (mC S) od mi (.fn (.func 86) [] [.imm [.int .i64 (many:Nat)],.imm [.sl false (mC S)]]) f L a k 4,AA c (O.map eE) (mC S) od mi (.fn (.func 86) [] [.imm [.int .i64 (many:Nat)],.imm [.sl false (mC S)]]) f L a k 5,AA c (O.map eE) (mC S) od mi (.fn (.func 86) [] [.imm [.int .i64 (many:Nat)],.imm [.sl false (mC S)]]) f L a k 6,AA c (O.map eE) (mC S) od mi (.fn (.func 86) [] [.imm [.int .i64 (many:Nat)],.imm [.sl false (mC S)]]) f L a k 7]) (n:=61) ⟨bX,?_,?_,?_,?_⟩ (hr8 7 (by decide)) (by simp) (by simp) (by rw [bp,List.length_range]) (by rw [e7];rfl) (by rw [e7];simp) ?_ ?_ fun l=>?_
  .intro r hr
   replace hr:=aC hr
   rcases hr with rfl|rfl|rfl|rfl|rfl|rfl|rfl|rfl
   .exact (hr8 0 (by decide)).symm
   .exact (hr8 1 (by decide)).symm
   .exact (hr8 2 (by decide)).symm
   .exact (hr8 3 (by decide)).symm
   .exact (hr8 4 (by decide)).symm
   .exact (hr8 5 (by decide)).symm
   .exact (hr8 6 (by decide)).symm
   .exact (hr8 7 (by decide)).symm
  .intro r hr
   match r,hr with
   |0,hr=>exact absurd (by simp) hr
   |1,hr=>exact absurd (by simp) hr
   |2,hr=>exact absurd (by simp) hr
   |3,hr=>exact absurd (by simp) hr
   |4,hr=>exact absurd (by simp) hr
   |5,hr=>exact absurd (by simp) hr
   |6,hr=>exact absurd (by simp) hr
   |7,hr=>exact absurd (by simp) hr
   |r+8,_=>simp
  .intro r hr
   replace hr:=aC hr
   have h8:r<8:=by omega
   rw [hr8 r h8]
   exact bJ (fun q hq=>by simp [tP] at hq ⊢;omega) (ZU c O S od mi many f L a k r h8)
  .intro r hr h
   replace hr:=aC hr
   simp only [af,ak] at h
   omega
  .simp only [aP,ab];rw [mV];simp only [aI,aP,ab];exact aB (cX _)
  .intro p hp
   simp only [oI,bn,jh,or_false] at hp
   rcases hp with rfl|rfl|rfl|rfl|rfl|rfl|rfl|rfl<;>simp
  .obtain ⟨cd,hcd⟩:∃ cd,Tryz.f20.body=some cd:=⟨_,rfl⟩
   have key:=@RI c hc O hO S od mi many f L a hf hL hb ⟨some l,none⟩ k hk rows hr8 cd hcd XW (XV cd hcd)
   rw [e7]
   exact key
end
end Go.Proofs.YtggflhbigolakaaGreatDoor
