import Derived.Test.YtggflhbigolakaaGreatDoorEP
import Derived.Test.YtggflhbigolakaaGreatDoorET
import Derived.Test.YtggflhbigolakaaGreatDoorUD
set_option linter.unusedSimpArgs false
namespace Go.Proofs.YtggflhbigolakaaGreatDoor
open Go.AM
attribute [local irreducible] cG bG bI bL bW bZ aQ aV bN
set_option maxRecDepth 100000
set_option maxHeartbeats 8000000 in
theorem aAQ (C:List AV) (hC:aP aE C=true) (hC4:∃ x y z w,C=[.int .i64 x,.int .i64 y,.int .i64 z,.sl false w]) (OL:List (List AV)) (hO:cQ aE OL=true) (od:Int) (h:od<0\/3<od):Pure Tryz.prog G0 20 [.agg C,.sl false OL,.int .i64 od] (.tup [.sl true [],.int .i64 5]):=by
 obtain ⟨x,y,z,w,rfl⟩:=hC4
 by_cases h0:od<0
 .have c0:decide (od<0)=true:=decide_eq_true h0
  refine aL bX Tryz.func20 rfl (by kernel_rfl) (by simp [Tryz.ntmps20]) (by have:=bE (p:=aE) hC;simp only [aP,aI,ac,ab] at hC ⊢;simp only [hC,hO,ai]) (by simp only [aI,cQ,aP,ai]) ?_
  simp only [Tryz.ntmps20,aK,Nat.reduceAdd]
  refine gT c0
  refine r8 (v:=.sl true []) (w:=.int .i64 5) rfl ?_ ?_ ?_
  .exact aZ
  .exact aZ
  .refine aA
 .have c0:decide (od<0)=false:=decide_eq_false h0
  have c3:decide (3<od)=true:=decide_eq_true (by omega)
  refine aL bX Tryz.func20 rfl (by kernel_rfl) (by simp [Tryz.ntmps20]) (by have:=bE (p:=aE) hC;simp only [aP,aI,ac,ab] at hC ⊢;simp only [hC,hO,ai]) (by simp only [aI,cQ,aP,ai]) ?_
  simp only [Tryz.ntmps20,aK,Nat.reduceAdd]
  refine gT (bF c0 c3)
  refine r8 (v:=.sl true []) (w:=.int .i64 5) rfl ?_ ?_ ?_
  .exact aZ
  .exact aZ
  .refine aA
set_option maxHeartbeats 8000000 in
theorem aAw (C:List AV) (hC:aP aE C=true) (hC4:∃ x y z w,C=[.int .i64 x,.int .i64 y,.int .i64 z,.sl false w]) (OL:List (List AV)) (hO:cQ aE OL=true) (od:Int) (h:od<0\/3<od):Pure Tryz.prog G0 21 [.agg C,.sl false OL,.int .i64 od] (.tup [.sl true [],.int .i64 5]):=by
 obtain ⟨x,y,z,w,rfl⟩:=hC4
 by_cases h0:od<0
 .have c0:decide (od<0)=true:=decide_eq_true h0
  refine aL bX Tryz.func21 rfl (by kernel_rfl) (by simp [Tryz.ntmps21]) (by have:=bE (p:=aE) hC;simp only [aP,aI,ac,ab] at hC ⊢;simp only [hC,hO,ai]) (by simp only [aI,cQ,aP,ai]) ?_
  simp only [Tryz.ntmps21,aK,Nat.reduceAdd]
  refine gT c0
  refine eS rfl ?_
  refine aA
 .have c0:decide (od<0)=false:=decide_eq_false h0
  have c3:decide (3<od)=true:=decide_eq_true (by omega)
  refine aL bX Tryz.func21 rfl (by kernel_rfl) (by simp [Tryz.ntmps21]) (by have:=bE (p:=aE) hC;simp only [aP,aI,ac,ab] at hC ⊢;simp only [hC,hO,ai]) (by simp only [aI,cQ,aP,ai]) ?_
  simp only [Tryz.ntmps21,aK,Nat.reduceAdd]
  refine gT (bF c0 c3)
  refine eS rfl ?_
  refine aA
theorem R7 (A:List Si):(KN A A==0)=true:=by
 simp [R5 A]
set_option maxHeartbeats 8000000 in
theorem x9 (b:Bool) (A:List (List Si)) (hl:A.length<=1000000) (hA:∀ m∈A,m.length<=1000000000000000/\∀ s∈m,s.1.length<=1000000000000000):Pure Tryz.prog G0 22 [.sl b (fV A),.sl b (fV A)] (.bool true):=by
 have hAt:=cS A
 have hAl:=j4 A
 have gA:=fun (i:Nat) (m:List Si) (h:A[i]? =some m)=>G1 h
 have ks:=fun m (hm:m∈A)=>XM m m (hA m hm).1 (hA m hm).2
 have cn:((((fV A).length:Nat):Int) != (((fV A).length:Nat):Int))=false:=by simp
 simp only [mV,R7] at ks
 generalize hAC:fV A=AC at hAt hAl gA cn ⊢
 refine aL bX Tryz.func22 rfl (by kernel_rfl) (by simp [Tryz.ntmps22]) (by simp only [aP,aI,hAt,ai]) (by simp [aI]) ?_
 simp only [Tryz.ntmps22,aK,Nat.reduceAdd]
 refine bB cn
 refine aJ (α:={i:Nat // i<=A.length}) (fun i=>[(0,.sl b AC),(1,.sl b AC),(5,.int .i64 (i.1:Nat))]) (fun _=>[]) (fun i=>A.length - i.1) ⟨0,az _⟩ (Weak.ref ⟨?_,.inl ?_⟩) ?_
 .exact aZ
 .exact aZ
 .rintro ⟨i,hi⟩ K hK
  try simp only at hi
  by_cases hlt:i<A.length
  .have c1:decide ((i:Int)<((AC.length:Nat):Int))=true:=by simp;omega
   have e1:=aO (k:=i) hlt (by omega)
   obtain ⟨m,hm⟩:∃ m,A[i]? =some m:=⟨_,ah hlt⟩
   have g:=gA i m hm
   have hi1:i<AC.length:=by omega
   have km:=ks m (aj hm)
   refine dM (dV c1 g hi1 e1)
   refine hK.go ⟨i+1,hlt⟩ aX (by simp only;omega)
   .exact aZ
   .exact aZ
   .intro z hz
    replace hz:=aC hz
    rcases hz with rfl|rfl|rfl<;>first|rfl|(simp only [aI];exact aB hAt)
   .refine aS;try exact rfl
  .have c1:decide ((i:Int)<((AC.length:Nat):Int))=false:=by simp;omega
   refine bB c1
   refine aD rfl ?_
   refine aA
def WM (cs:List AV) (OL:List (List AV)) (x:Int):Prop:=∃ (b:Bool) (A:List (List AV)) (e:Int),cQ aE A=true/\Pure Tryz.prog G0 20 [.agg cs,.sl false OL,.int .i64 x] (.tup [.sl b A,.int .i64 e])/\Pure Tryz.prog G0 21 [.agg cs,.sl false OL,.int .i64 x] (.tup [.sl b A,.int .i64 e])/\Pure Tryz.prog G0 22 [.sl b A,.sl b A] (.bool true)
set_option maxHeartbeats 16000000 in
theorem W9 (hlv:Pure Tryz.prog G0 16 [] (.bool true)) (l m:List Int) (n a4:Int) (ca cb cc:Int) (cd:List (List AV)) (OL:List (List AV)) (htc:cQ aE cd=true) (hto:cQ aE OL=true)
  (klab:Pure Tryz.prog G0 10 [cY l,cY m] (.tup [.agg [.int .i64 ca,.int .i64 cb,.int .i64 cc,.sl false cd],.sl false OL])) (kar:Pure Tryz.prog G0 19 [.int .i64 n,.int .i64 4] (.int .i64 a4))
  (hx:∀ x,WM [.int .i64 ca,.int .i64 cb,.int .i64 cc,.sl false cd] OL x):Pure Tryz.prog G0 5 [cY l,cY m,.int .i64 n] (.bool true):=by
 have hl1:aI aE (cY l)=true:=fP l
 have hm1:aI aE (cY m)=true:=fP m
 generalize cY l=el at klab hl1 ⊢
 generalize cY m=em at klab hm1 ⊢
 obtain ⟨L3,hL3⟩:∃ L3,L3=[[AV.int .i64 a4],[.int .i64 n],[.int .i64 2]]:=⟨_,rfl⟩
 have hLl:L3.length=3:=by rw [hL3];rfl
 have hLt:cQ aE L3=true:=by rw [hL3];rfl
 have hLg:∀ i,i<3->∃ x,L3[i]? =some [.int .i64 x]/\WM [.int .i64 ca,.int .i64 cb,.int .i64 cc,.sl false cd] OL x:=fun i hi=>by
  rw [hL3]
  obtain rfl|rfl|rfl:i=0\/i=1\/i=2:=by omega
  .exact ⟨_,rfl,hx _⟩
  .exact ⟨_,rfl,hx _⟩
  .exact ⟨_,rfl,hx _⟩
 refine aL bX Tryz.func5 rfl (by kernel_rfl) (by simp [Tryz.ntmps5]) (by simp only [aP,ab,ae];exact ⟨hl1,hm1,rfl⟩) (by rfl) ?_
 simp only [Tryz.ntmps5,aK,Nat.reduceAdd]
 refine gU
 refine aJ (α:={i:Nat // i<=3}) (fun i=>[(6,.bool false),(7,.ptr 0 0 0),(8,.sl false OL),(9,.sl true L3),(10,.int .i64 (i.1:Nat))]) (fun _=>[.cells 0 [.int .i64 ca,.int .i64 cb,.int .i64 cc,.sl false cd]]) (fun i=>3 - i.1) ⟨0,az _⟩ (cA [] (kp [0]) bX (fun r hr=>absurd hr (bm r)) ?_ ?_ ?_) ?_
 .rw [hL3]
  simp only [wS,simprocAttr,dL,iD,and_true,true_or]
 .simp only [bg,bz,aI,aB hto,aB hLt,ab,ac]
  rfl
 .refine aA
  simp only [hY,and_true]
  exact kr rfl (bE (by simp only [aP,aI,htc,ai])) (by simp)
 .rintro ⟨i,hi⟩ K hK
  try simp only at hi
  by_cases hlt:i<3
  .have c1:decide (((i:Nat):Int)<3)=true:=by simp;omega
   have e3:=aO (k:=i) hlt (by omega)
   obtain ⟨x,hle,b,A,k,htd,k1,k2,k3⟩:=hLg i hlt
   have hA:i<L3.length:=by omega
   have ek:(k==k)=true:=by simp
   have en:(k != k)=false:=by simp
   repeat' (first|(refine cC ?_;simp only [wS,simprocAttr,hle,hlt,hA,hLl,c1,e3,en,bne_self_eq_false,ne_eq,not_true_eq_false,bf,be])|refine aM|refine iP ?_|fail)
   refine hK.go ⟨i+1,hlt⟩ aX (by simp only;omega)
   .exact aZ
   .exact aZ
   .intro z hz
    replace hz:=aC hz
    rcases hz with rfl|rfl|rfl|rfl|rfl<;>first|rfl|(simp only [aI];first|exact aB hto|exact aB hLt)
   .refine aS;try exact bE (by simp only [aP,aI,htc,ai])
  .have c1:decide (((i:Nat):Int)<3)=false:=by simp;omega
   repeat' (first|(refine cC ?_;simp only [wS,simprocAttr,c1])|refine aM|(refine bO bX (hlv) ?_;refine aA))
   refine aD rfl ?_
   refine aA
end Go.Proofs.YtggflhbigolakaaGreatDoor
