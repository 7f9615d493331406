import Derived.Test.YtggflhbigolakaaGreatDoorUC
import Derived.Test.YtggflhbigolakaaGreatDoorUS
import Derived.Test.YtggflhbigolakaaGreatDoorD0
import Derived.ProofKit
import Derived.SizedLaws
import Derived.OpenShut
import Derived.LaidMore
import Derived.Lay
import Derived.Stop.Joined
set_option linter.unusedVariables false
set_option linter.unusedSimpArgs false
namespace Go.Proofs.YtggflhbigolakaaGreatDoor
open Go.AM
attribute [local irreducible] AWp aY bC bI bU bW aN aS bL
set_option maxRecDepth 100000
set_option maxHeartbeats 8000000 in
theorem VB (A B:List Si) (hA:A.length≤1000000000000000) (hp:∀ s∈A,s.1.length≤1000000000000000):Pure Tryz.prog G0 49 [.sl false (mC A),.sl false (mC B),.fn (.func 50) [] []] (.int .i64 (TM gV A B)):=by
 have hat:=cK A
 have hbt:=cK B
 have hal:=gQ A
 have hbl:=gQ B
 have hga:=fun (i:Nat) (s:Si)=>jG (M:=A) (i:=i) (s:=s)
 have hgb:=fun (i:Nat) (s:Si)=>jG (M:=B) (i:=i) (s:=s)
 obtain ⟨V,hV⟩:∃ v,v=TM gV A B:=⟨_,rfl⟩
 rw [← hV]
 generalize mC A=AC at hat hal hga ⊢
 generalize mC B=BC at hbt hbl hgb ⊢
 refine aQ hG0 Tryz.func49 rfl (by kernel_rfl) (by simp [Tryz.ntmps49]) (by simp only [inL,inR,hat,hbt,Bool.and_self]) (by simp [inR]) ?_
 simp only [Tryz.ntmps49,aH,Nat.reduceAdd]
 repeat' (first|(refine u'S ?_;simp only [wS,simprocAttr])|refine u'Q fun _ _=>?_|refine aO ?_|refine aP (fun hg=>?_) fun hg=>?_|fail)
 refine aJ (α:={i:Nat // i≤A.length∧V=TM gV (A.drop i) (B.drop i)}) (fun i=>[(0,.sl false AC),(1,.sl false BC),(2,.fn (.func 50) [] []),(6,.int .i64 0),(11,.sl false AC),(12,.int .i64 (AC.length:Nat)),(13,.int .i64 (i.1:Nat))]) (fun _=>[]) (fun i=>A.length - i.1) ⟨0,Nat.zero_le _,hV⟩ (Weak.ref ⟨?_,.inl ?_⟩) ?_
 ·exact u'p
 ·exact u'p
 ·rintro ⟨i,hi,hinv⟩ K hK
  try simp only at hi hinv
  by_cases hlt:i<A.length
  ·have c1:decide (((i:Nat):Int)<((AC.length:Nat):Int))=true:=by simp;omega
   have e3:=aL (k:=i) hlt (by omega)
   obtain ⟨x,hx⟩:∃ x,A[i]? =some x:=⟨_,List.getElem?_eq_getElem hlt⟩
   have gx:=hga i x hx
   have hA1:i<AC.length:=by omega
   rw [U9 hx] at hinv
   by_cases hlb:i<B.length
   ·obtain ⟨y,hy⟩:∃ y,B[i]? =some y:=⟨_,List.getElem?_eq_getElem hlb⟩
    have gy:=hgb i y hy
    have hB1:i<BC.length:=by omega
    have c2:decide (((i:Nat):Int) ≥ ((BC.length:Nat):Int))=false:=by simp;omega
    have kc:=P9 x y (hp x (List.mem_of_getElem? hx))
    rw [U9 hy,TM,two] at hinv
    generalize gV x y=cv at kc hinv
    by_cases hz:cv=0
    ·subst hz
     rw [if_neg (by simp)] at hinv
     have c3:((0:Int) != 0)=false:=rfl
     repeat' (first|(refine u'S ?_;simp only [wS,simprocAttr,gx,gy,hA1,hB1,c1,c2,c3,e3,Bool.not_true,Bool.not_false])|refine u'Q fun _ _=>?_|refine aO ?_|refine aP (fun hg=>?_) fun hg=>?_|refine u'G ?_|fail)
     refine hK.go ⟨i+1,hlt,hinv⟩ (Weak.ref ⟨?_,.inr ⟨by first|exact Nat.zero_le _|exact Nat.le_refl _|simp,?_,fun g cs hg=>aD (hG0 g cs hg),?_,?_⟩⟩) (by simp only;omega)
     ·exact u'p
     ·exact u'p
     ·intro z hz
      simp only [List.mem_cons,List.not_mem_nil,or_false] at hz
      rcases hz with rfl|rfl|rfl|rfl|rfl|rfl|rfl<;>first|rfl|(simp only [inR];first|exact aA hat|exact aA hbt|rfl)
     ·simp only [List.all_cons,List.all_nil,Bool.and_true,Bool.and_eq_true];try exact rfl
    ·rw [if_pos hz] at hinv
     have c3:(cv != 0)=true:=by simp [hz]
     repeat' (first|(refine u'S ?_;simp only [wS,simprocAttr,gx,gy,hA1,hB1,c1,c2,c3,e3,Bool.not_true,Bool.not_false])|refine u'Q fun _ _=>?_|refine aO ?_|refine aP (fun hg=>?_) fun hg=>?_|refine u'G ?_|fail)
     refine aB rfl ?_
     simp only [wS,simprocAttr]
     rw [hinv]
   ·have c2:decide (((i:Nat):Int) ≥ ((BC.length:Nat):Int))=true:=by simp;omega
    rw [List.drop_eq_nil_of_le (show B.length≤i by omega),TM] at hinv
    repeat' (first|(refine u'S ?_;simp only [wS,simprocAttr,gx,hA1,c1,c2,Bool.not_true,Bool.not_false])|refine u'Q fun _ _=>?_|refine aO ?_|refine aP (fun hg=>?_) fun hg=>?_|fail)
    refine aB rfl ?_
    simp only [wS,simprocAttr]
    rw [hinv]
  ·have c1:decide (((i:Nat):Int)<((AC.length:Nat):Int))=false:=by simp;omega
   rw [List.drop_eq_nil_of_le (show A.length≤i by omega)] at hinv
   by_cases hlb:A.length<B.length
   ·have c2:decide (((AC.length:Nat):Int)<((BC.length:Nat):Int))=true:=by simp;omega
    obtain ⟨y,hy⟩:∃ y,B[i]? =some y:=⟨_,List.getElem?_eq_getElem (by omega)⟩
    rw [U9 hy,TM] at hinv
    repeat' (first|(refine u'S ?_;simp only [wS,simprocAttr,c1,c2])|refine u'Q fun _ _=>?_|refine aO ?_|refine aP (fun hg=>?_) fun hg=>?_|fail)
    refine aB rfl ?_
    simp only [wS,simprocAttr]
    rw [hinv]
   ·have c2:decide (((AC.length:Nat):Int)<((BC.length:Nat):Int))=false:=by simp;omega
    rw [List.drop_eq_nil_of_le (show B.length≤i by omega),TM] at hinv
    repeat' (first|(refine u'S ?_;simp only [wS,simprocAttr,c1,c2])|refine u'Q fun _ _=>?_|refine aO ?_|refine aP (fun hg=>?_) fun hg=>?_|fail)
    refine aB rfl ?_
    simp only [wS,simprocAttr]
    rw [hinv]
theorem VD (A B:List Si) (hA:A.length≤1000000000000000) (hp:∀ s∈A,s.1.length≤1000000000000000):Pure Tryz.prog G0 17 [mV A,mV B] (.int .i64 (U4 A B)):=by
 have kf:=VB A B hA hp
 have kc:=EB (A.length:Int) (B.length:Int)
 have ko:Pure Tryz.prog G0 47 [.sl true [[.int .i64 (cW A.length B.length)],[.int .i64 (TM gV A B)]]] _:=RO true [cW A.length B.length,TM gV A B] (by simp)
 rw [show fZ [cW A.length B.length,TM gV A B]=U4 A B by
  simp only [fZ,U4,two]
  split<;>rename_i h
  ·rfl
  ·split
   ·rfl
   ·omega] at ko
 have hat:=cK A
 have hbt:=cK B
 rw [← gQ A,← gQ B] at kc ko
 simp only [mV]
 generalize mC A=AC at hat kf kc ko ⊢
 generalize mC B=BC at hbt kf kc ko ⊢
 generalize U4 A B=V at ko ⊢
 generalize TM gV A B=v2 at ko kf
 generalize cW ((AC.length:Nat):Int) ((BC.length:Nat):Int)=v1 at ko kc
 refine aQ hG0 Tryz.func17 rfl (by kernel_rfl) (by simp [Tryz.ntmps17]) (by simp only [inL,inR,hat,hbt,Bool.and_self]) (by simp [inR]) ?_
 simp only [Tryz.ntmps17,aH,Nat.reduceAdd]
 repeat' (first|(refine u'S ?_;simp only [wS,simprocAttr])|refine u'Q fun _ _=>?_|refine aO ?_|refine aP (fun hg=>?_) fun hg=>?_|refine u'G ?_|fail)
 refine aB rfl ?_
 simp only [wS,simprocAttr]
set_option maxHeartbeats 32000000 in
theorem VE (hlv : Pure Tryz.prog G0 16 [] (.bool true)) (l m n : List Int) (how by0 : Int) (ca cb cc : Int) (cd : List (List AV)) (OL x0 x1 x2 R : List (List AV)) (htc : inE aC cd = true) (hto : inE aC OL = true) (hx0 : inE aC x0 = true) (hx1 : inE aC x1 = true) (hx2 : inE aC x2 = true) (hR : inE aC R = true) (hR2 : ∀ e ∈ R, e.length = 2)
  (klab:Pure Tryz.prog G0 10 [b9 l,b9 m] (.tup [.agg [.int .i64 ca,.int .i64 cb,.int .i64 cc,.sl false cd],.sl false OL])) (kmut:Pure Tryz.prog G0 11 [.agg [.int .i64 ca,.int .i64 cb,.int .i64 cc,.sl false cd],.sl false OL,b9 n] (.agg [.sl false x0])) (kmu2:Pure Tryz.prog G0 11 [.agg [.int .i64 ca,.int .i64 cb,.int .i64 cc,.sl false cd],.sl false OL,b9 m] (.agg [.sl false x2])) (ksp:Pure Tryz.prog G0 12 [.agg [.sl false x0],.int .i64 how,.int .i64 by0] (.agg [.sl false x1]))
  (E:Nat→AV) (C:Nat→Nat→Int) (hE0:E 0=.sl false x0) (hE1:E 1=.sl false x1) (hE2:E 2=.sl false x2) (hE3:E 3=.sl false (R.take 5)) (hE4:E 4=.sl true [])
  (kc:∀ i k,i<5→k<5→Pure Tryz.prog G0 17 [.agg [E i],.agg [E k]] (.int .i64 (C i k))) (krc:∀ i k,i<5→k<5→Pure Tryz.prog G0 18 [.agg [E i],.agg [E k]] (.int .i64 (C i k)))
  (hanti:∀ i k,i<5→k<5→IntKind.i64.wrap (0 - C k i)=C i k) (htrn:∀ i k j,i<5→k<5→j<5→C i k≤0→C k j≤0→C i j≤0):
  Pure Tryz.prog G0 4 [b9 l,b9 m,b9 n,.int .i64 how,.int .i64 by0,.agg [.sl false R]] (.bool true):=by
 have hl1:inR aC (b9 l)=true:=eW l
 have hm1:inR aC (b9 m)=true:=eW m
 have hn1:inR aC (b9 n)=true:=eW n
 generalize b9 l=el at klab hl1 ⊢
 generalize b9 m=em at klab kmu2 hm1 ⊢
 generalize b9 n=en at kmut hn1 ⊢
 have hRt:=DO hR 5
 have hRall:R.all (fun e=>decide (e.length=2))=true:=List.all_eq_true.2 fun e he=>by simpa using hR2 e he
 obtain ⟨q,hq1,hq2,hq3⟩:∃ q:Nat,(if (5:Int)<((R.length:Nat):Int) then (5:Int) else ((R.length:Nat):Int))=((q:Nat):Int)∧q≤R.length∧R.take q=R.take 5:=by
  by_cases h:5<R.length
  ·exact ⟨5,by rw [if_pos (by omega)];rfl,by omega,rfl⟩
  ·exact ⟨R.length,by rw [if_neg (by omega)],Nat.le_refl _,by rw [List.take_of_length_le (Nat.le_refl _),List.take_of_length_le (by omega)]⟩
 have hq0:(0:Int)≤((q:Nat):Int):=by omega
 obtain ⟨L5,hL5⟩:∃ L5,L5=[[AV.sl false x0],[.sl false x1],[.sl false x2],[.sl false (R.take 5)],[.sl true []]]:=⟨_,rfl⟩
 have hLl:L5.length=5:=by rw [hL5];rfl
 have hLt:inE aC L5=true:=by rw [hL5];simp only [inE,inL,inR,hx0,hx1,hx2,hRt,Bool.and_self]
 have hLg:∀ i,i<5→L5[i]? =some [E i]:=fun i hi=>by
  rw [hL5]
  obtain rfl|rfl|rfl|rfl|rfl:i=0∨i=1∨i=2∨i=3∨i=4:=by omega
  ·rw [hE0];rfl
  ·rw [hE1];rfl
  ·rw [hE2];rfl
  ·rw [hE3];rfl
  ·rw [hE4];rfl
 refine aQ hG0 Tryz.func4 rfl (by kernel_rfl) (by simp [Tryz.ntmps4]) (by simp only [inL,inR,hR,Bool.and_true,Bool.and_eq_true];exact ⟨hl1,hm1,hn1⟩) (by rfl) ?_
 simp only [Tryz.ntmps4,aH,Nat.reduceAdd]
 repeat' (first|(refine u'S ?_;simp only [wS,simprocAttr,hRall,hq1,hq2,hq3,hq0,Int.toNat_natCast,Nat.zero_le,and_true,true_and,and_self,if_true,List.drop_zero,Nat.sub_zero,Bool.false_and,Bool.and_false,Bool.or_self])|refine u'Q fun _ _=>?_|refine aO ?_|refine aP (fun hg=>?_) fun hg=>?_|refine u'G ?_|fail)
 refine aJ (α:={i:Nat // i≤5}) (fun i=>[(12,.bool false),(16,.sl true L5),(17,.int .i64 (i.1:Nat))]) (fun _=>[]) (fun i=>5 - i.1) ⟨0,Nat.zero_le _⟩ (bN [] (kp []) hG0 (fun r hr=>absurd hr (Nat.not_lt_zero r)) ?_ ?_ ?_) ?_
 ·rw [hL5]
  simp only [wS,simprocAttr,cS,Frz,and_true,true_or]
 ·simp only [List.all_cons,List.all_nil,inR,aA hLt,Bool.and_true,Bool.true_and]
 ·simp only [wS,simprocAttr]
  simp only [ToH,and_true]
  first|done|exact ⟨rfl,rfl,rfl⟩
 ·rintro ⟨i, hi⟩ K1 hK1
  try simp only at hi
  by_cases hlt:i<5
  ·have c1 : decide (((i : Nat) : Int) < ((L5.length : Nat) : Int)) = true := by simp; omega
   have e1:=aL (k:=i) hlt (by omega)
   have hLi:=hLg i hlt
   have hA:=(List.getElem?_eq_some_iff.1 hLi).1
   repeat' (first|(refine u'S ?_;simp only [wS,simprocAttr,c1,e1])|refine u'Q fun _ _=>?_|refine aO ?_|refine aP (fun hg=>?_) fun hg=>?_|fail)
   refine aJ (α:={k:Nat // k≤5}) (fun k=>[(12,.bool false),(16,.sl true L5),(17,.int .i64 (i:Nat)),(18,.int .i64 (k.1:Nat))]) (fun _=>[]) (fun k=>5 - k.1) ⟨0,Nat.zero_le _⟩ (Weak.ref ⟨?_,.inl ?_⟩) ?_
   ·exact u'p
   ·exact u'p
   ·rintro ⟨k,hk⟩ K2 hK2
    try simp only at hk
    by_cases hkt:k<5
    ·have c2 : decide (((k : Nat) : Int) < ((L5.length : Nat) : Int)) = true := by simp; omega
     have e2:=aL (k:=k) hkt (by omega)
     have hLk:=hLg k hkt
     have hB:=(List.getElem?_eq_some_iff.1 hLk).1
     have kik:=kc i k hlt hkt
     have kki:=kc k i hkt hlt
     have rik:=krc i k hlt hkt
     have hne:=hanti i k hlt hkt
     have en:(C i k != C i k)=false:=by simp
     repeat' (first|(refine u'S ?_;simp only [wS,simprocAttr,hLi,hLk,hA,hB,c2,e2,hne,en])|refine u'Q fun _ _=>?_|refine aO ?_|refine aP (fun hg=>?_) fun hg=>?_|refine u'G ?_|fail)
     refine aJ (α:={j:Nat // j≤5}) (fun j=>[(12,.bool false),(16,.sl true L5),(17,.int .i64 (i:Nat)),(18,.int .i64 (k:Nat)),(19,.int .i64 (C i k)),(20,.int .i64 (j.1:Nat))]) (fun _=>[]) (fun j=>5 - j.1) ⟨0,Nat.zero_le _⟩ (Weak.ref ⟨?_,.inl ?_⟩) ?_
     ·exact u'p
     ·exact u'p
     ·rintro ⟨j,hj⟩ K3 hK3
      try simp only at hj
      by_cases hjt:j<5
      ·have c3:decide (((j:Nat):Int)<((L5.length:Nat):Int))=true:=by simp;omega
       have e3:=aL (k:=j) hjt (by omega)
       have hLj:=hLg j hjt
       have hD:=(List.getElem?_eq_some_iff.1 hLj).1
       have kkj:=kc k j hkt hjt
       have kij:=kc i j hlt hjt
       have htr:=htrn i k j hlt hkt hjt
       by_cases h1:C i k≤0
       ·have d1:decide (C i k≤0)=true:=by simp [h1]
        by_cases h2:C k j≤0
        ·have d2:decide (C k j≤0)=true:=by simp [h2]
         have d3:decide (C i j > 0)=false:=by have:=htr h1 h2;simp;omega
         repeat' (first|(refine u'S ?_;simp only [wS,simprocAttr,hLi,hLk,hLj,hA,hB,hD,c3,e3,d1,d2,d3])|refine u'Q fun _ _=>?_|refine aO ?_|refine aP (fun hg=>?_) fun hg=>?_|refine u'G ?_|fail)
         refine hK3.go ⟨j+1,hjt⟩ (Weak.ref ⟨?_,.inr ⟨by first|exact Nat.zero_le _|exact Nat.le_refl _|simp,?_,fun g cs hg=>aD (hG0 g cs hg),?_,?_⟩⟩) (by simp only;omega)
         ·exact u'p
         ·exact u'p
         ·intro z hz
          simp only [List.mem_cons,List.not_mem_nil,or_false] at hz
          rcases hz with rfl|rfl|rfl|rfl|rfl|rfl<;>first|rfl|(simp only [inR];exact aA hLt)
         ·simp only [List.all_cons,List.all_nil,Bool.and_true,Bool.and_eq_true];try exact rfl
        ·have d2:decide (C k j≤0)=false:=by simp;omega
         have d3:True:=trivial
         repeat' (first|(refine u'S ?_;simp only [wS,simprocAttr,hLi,hLk,hLj,hA,hB,hD,c3,e3,d1,d2,d3])|refine u'Q fun _ _=>?_|refine aO ?_|refine aP (fun hg=>?_) fun hg=>?_|refine u'G ?_|fail)
         refine hK3.go ⟨j+1,hjt⟩ (Weak.ref ⟨?_,.inr ⟨by first|exact Nat.zero_le _|exact Nat.le_refl _|simp,?_,fun g cs hg=>aD (hG0 g cs hg),?_,?_⟩⟩) (by simp only;omega)
         ·exact u'p
         ·exact u'p
         ·intro z hz
          simp only [List.mem_cons,List.not_mem_nil,or_false] at hz
          rcases hz with rfl|rfl|rfl|rfl|rfl|rfl<;>first|rfl|(simp only [inR];exact aA hLt)
         ·simp only [List.all_cons,List.all_nil,Bool.and_true,Bool.and_eq_true];try exact rfl
       ·have d1:decide (C i k≤0)=false:=by simp;omega
        have d2:True:=trivial
        have d3:True:=trivial
        repeat' (first|(refine u'S ?_;simp only [wS,simprocAttr,hLi,hLk,hLj,hA,hB,hD,c3,e3,d1,d2,d3])|refine u'Q fun _ _=>?_|refine aO ?_|refine aP (fun hg=>?_) fun hg=>?_|refine u'G ?_|fail)
        refine hK3.go ⟨j+1,hjt⟩ (Weak.ref ⟨?_,.inr ⟨by first|exact Nat.zero_le _|exact Nat.le_refl _|simp,?_,fun g cs hg=>aD (hG0 g cs hg),?_,?_⟩⟩) (by simp only;omega)
        ·exact u'p
        ·exact u'p
        ·intro z hz
         simp only [List.mem_cons,List.not_mem_nil,or_false] at hz
         rcases hz with rfl|rfl|rfl|rfl|rfl|rfl<;>first|rfl|(simp only [inR];exact aA hLt)
        ·simp only [List.all_cons,List.all_nil,Bool.and_true,Bool.and_eq_true];try exact rfl
      ·have c3:decide (((j:Nat):Int)<((L5.length:Nat):Int))=false:=by simp;omega
       repeat' (first|(refine u'S ?_;simp only [wS,simprocAttr,c3,e2])|refine u'Q fun _ _=>?_|refine aO ?_|refine aP (fun hg=>?_) fun hg=>?_|fail)
       refine hK2.go ⟨k+1,hkt⟩ (Weak.ref ⟨?_,.inr ⟨by first|exact Nat.zero_le _|exact Nat.le_refl _|simp,?_,fun g cs hg=>aD (hG0 g cs hg),?_,?_⟩⟩) (by simp only;omega)
       ·exact u'p
       ·exact u'p
       ·intro z hz
        simp only [List.mem_cons,List.not_mem_nil,or_false] at hz
        rcases hz with rfl|rfl|rfl|rfl<;>first|rfl|(simp only [inR];exact aA hLt)
       ·simp only [List.all_cons,List.all_nil,Bool.and_true,Bool.and_eq_true];try exact rfl
    ·have c2:decide (((k:Nat):Int)<((L5.length:Nat):Int))=false:=by simp;omega
     repeat' (first|(refine u'S ?_;simp only [wS,simprocAttr,c2,e1])|refine u'Q fun _ _=>?_|refine aO ?_|refine aP (fun hg=>?_) fun hg=>?_|fail)
     refine hK1.go ⟨i+1,hlt⟩ (Weak.ref ⟨?_,.inr ⟨by first|exact Nat.zero_le _|exact Nat.le_refl _|simp,?_,fun g cs hg=>aD (hG0 g cs hg),?_,?_⟩⟩) (by simp only;omega)
     ·exact u'p
     ·exact u'p
     ·intro z hz
      simp only [List.mem_cons,List.not_mem_nil,or_false] at hz
      rcases hz with rfl|rfl|rfl<;>first|rfl|(simp only [inR];exact aA hLt)
     ·simp only [List.all_cons,List.all_nil,Bool.and_true,Bool.and_eq_true];try exact rfl
  ·have c1:decide (((i:Nat):Int)<((L5.length:Nat):Int))=false:=by simp;omega
   repeat' (first|(refine u'S ?_;simp only [wS,simprocAttr,c1])|refine u'Q fun _ _=>?_|refine aO ?_|refine aP (fun hg=>?_) fun hg=>?_|(refine bH hG0 (hlv) ?_;simp only [wS,simprocAttr]))
   refine aB rfl ?_
   simp only [wS,simprocAttr]
theorem V2 {f:FuncId} {a b a' b' res:AV} (h:Pure Tryz.prog G0 f [a',b'] res) (ha:inR aC a=true) (hb:inR aC b=true) (e1:AM.wk a=a') (e2:AM.wk b=b'):Pure Tryz.prog G0 f [a,b] res:=
 h.lend hG0 (.cons (AO (.same ha) e1) (.cons (AO (.same hb) e2) .nil))
def V1 (x:Int):Prop:= -1≤x∧x≤1
theorem V5 {a b:Int} (ha:V1 a) (hb:V1 b):V1 (two a b):=by unfold two;split<;>assumption
theorem V4 (x y:Int):V1 (cW x y):=by
 rcases vN x y with ⟨_,h⟩|⟨_,h⟩|⟨_,h⟩<;>rw [h]<;>unfold V1<;>omega
theorem V3 {α:Type} {c: α→α→Int} (h:∀ x y,V1 (c x y)):∀ a b:List α,V1 (TM c a b)
 | [],[]=>by simp [TM,V1]
 | [],_::_=>by simp [TM,V1]
 |_::_,[]=>by simp [TM,V1]
 |x::a,y::b=>V5 (h x y) (V3 h a b)
theorem V8 (x y:Si):V1 (gV x y):=by
 rw [gV,UM]
 exact V5 (V3 V4 _ _) (V4 _ _)
theorem V9 (a b:List Si):V1 (U4 a b):=V5 (V4 _ _) (V3 V8 _ _)
theorem VA (M:List Si) (n:Nat):mC (M.take n)=(mC M).take n:=by rw [mC,mC,List.map_take]
theorem VL (l m n:List Int) (how by0:Int) (Mr:List Si) (hl:∀ x∈l,cI x) (hm:∀ x∈m,cI x) (hn:∀ x∈n,cI x) (hh:cI how) (hb:cI by0) (hr:∀ s∈Mr,s.1.length≤1000000000000000):Pure Tryz.prog G0 4 [b9 l,b9 m,b9 n,.int .i64 how,.int .i64 by0,mV Mr] (.bool true):=by
 obtain ⟨c,O,klab,hc,hO7,hOB,_⟩:=OP l m hl hm
 obtain ⟨M,kM,hM5,_,hMs⟩:=DD c hc O hOB (by omega) n hn
 obtain ⟨Z,kZ,hZ5,_,hZs⟩:=DD c hc O hOB (by omega) m hm
 have hMp:∀ s∈M,s.1.length≤16000000000:=fun s hs=>by
  obtain ⟨x,hx,rfl⟩:=hMs s hs
  have:=n7 c O x hx
  show x.1.length≤_
  omega
 have hZp:∀ s∈Z,s.1.length≤16000000000:=fun s hs=>by
  obtain ⟨x,hx,rfl⟩:=hZs s hs
  have:=n7 c O x hx
  show x.1.length≤_
  omega
 obtain ⟨Y,kY,hY,hYp⟩:=xX M 16000000000 (by decide) (by omega) hMp how by0 hh hb
 have htc:=T.enc_tree c
 obtain ⟨ca,cb,cc,cd,hce⟩:=aI c
 rw [hce] at klab kM kZ htc
 obtain ⟨Ms,hMd⟩:∃ Ms:Nat→List Si,Ms=fun i=>match i with|0=>M|1=>Y|2=>Z|3=>Mr.take 5|_=>[]:=⟨_,rfl⟩
 obtain ⟨E,hEd⟩:∃ E:Nat→AV,E=fun i=>if i=4 then .sl true [] else .sl false (mC (Ms i)):=⟨_,rfl⟩
 have hb1:∀ i,i<5→(Ms i).length≤1000000∧∀ s∈Ms i,s.1.length≤1000000000000000:=fun i hi=>by
  rw [hMd]
  obtain rfl|rfl|rfl|rfl|rfl:i=0∨i=1∨i=2∨i=3∨i=4:=by omega
  ·exact ⟨by show M.length≤_;omega,fun s hs=>Nat.le_trans (hMp s hs) (by decide)⟩
  ·exact ⟨by show Y.length≤_;omega,fun s hs=>Nat.le_trans (hYp s hs) (by decide)⟩
  ·exact ⟨by show Z.length≤_;omega,fun s hs=>Nat.le_trans (hZp s hs) (by decide)⟩
  ·exact ⟨by show (Mr.take 5).length≤_;rw [List.length_take];omega,fun s hs=>hr s (List.mem_of_mem_take hs)⟩
  ·exact ⟨Nat.zero_le _,fun s hs=>by cases hs⟩
 have hEt:∀ i,inR aC (.agg [E i])=true:=fun i=>by
  rw [hEd]
  by_cases h:i=4
  ·simp only [if_pos h];rfl
  ·simp only [if_neg h,inR,inL,cK,Bool.and_self]
 have hEw:∀ i,AM.wk (.agg [E i])=mV (Ms i):=fun i=>by
  rw [hEd]
  by_cases h:i=4
  ·subst h
   rw [hMd]
   simp only [if_true]
   rfl
  ·simp only [if_neg h]
   exact ON _
 simp only [mV] at kM kY kZ
 have kf:=VE DK l m n how by0 ca cb cc cd (O.map opC) (mC M) (mC Y) (mC Z) (mC Mr) (by simpa only [inL,inR,Bool.and_true,Bool.true_and] using htc) (eI O) (cK M) (cK Y) (cK Z) (cK Mr) (oI Mr) klab kM kZ kY
  E (fun i k=>U4 (Ms i) (Ms k)) (by rw [hEd,hMd];rfl) (by rw [hEd,hMd];rfl) (by rw [hEd,hMd];rfl) (by rw [hEd,hMd,← VA];rfl) (by rw [hEd];rfl)
  (fun i k hi hk=>V2 (VD (Ms i) (Ms k) (by have:=(hb1 i hi).1;omega) (hb1 i hi).2) (hEt i) (hEt k) (hEw i) (hEw k))
  (fun i k hi hk=>V2 (UT (Ms i) (Ms k) (by have:=(hb1 i hi).1;omega) (hb1 i hi).2) (hEt i) (hEt k) (hEw i) (hEw k))
  (fun i k _ _=>by
   have h1:=V7.anti (Ms i) (Ms k)
   have h2:=V9 (Ms i) (Ms k)
   unfold V1 at h2
   show IntKind.i64.wrap (0 - U4 (Ms k) (Ms i))=U4 (Ms i) (Ms k)
   rw [h1,cB (by omega) (by omega)]
   omega)
  (fun i k j _ _ _=>V7.trans _ _ _)
 exact kf
open Go.ChangeShapes Go.WideShapes Go.ChangeAt Go.RowKit
noncomputable def VU:Array Field:=match Tryz.prog.underlying 31 with
 |some (.struct fs)=>fs
 |_=> #[]
theorem VW:Tryz.prog.underlying 31=some (.struct VU):=by kernel_rfl
noncomputable def VQ:Array Field:=match Tryz.prog.underlying 50 with
 |some (.struct fs)=>fs
 |_=> #[]
theorem VX:Tryz.prog.underlying 50=some (.struct VQ):=by kernel_rfl
theorem VM {H:Type} {P:Program} {e:TypeId}:∀ {l:List (DataW H)} {d:DataW H},d∈l→∀ w∈DataW.weights P e d,w∈DataW.weightsAll P e l
 | [],_,h=>by cases h
 |x::l,d,h=>fun w hw=>by
  simp only [DataW.weightsAll,List.mem_append]
  rcases List.mem_cons.1 h with rfl|h
  ·exact .inl hw
  ·exact .inr (VM h w hw)
theorem VT {H:Type} {enc:TypeId × Value→H} {W:World} {held:Bool} {fuel:Nat} {cs:List Value} {d:DataW H} {p:List MemPlace} (h:DataW.trod enc Tryz.prog W 0 (fun _=>true) held fuel 22 cs=some (d,p)) (hw:∀ w∈DataW.weights Tryz.prog 22 d,w≤reachBytes):
  ∃ l:List Int,RelL (E0 W) [.sl false (aE l)] cs∧(∀ u∈cs,u.oneCell'=true)∧l.length≤1000000000000000:=by
 rcases open_ints Tryz.underlying22 Tryz.underlying3 Tryz.cells3 h with ⟨rfl,hx⟩|⟨a,len,cap,zs,rfl,_,hl,hm,hz,hx,hcell,hwz⟩
 ·refine ⟨[],?_,by simp [Value.oneCell'],by simp⟩
  simp only [RelL,Rel,aE,List.map_nil]
  exact ⟨_,_,rfl,⟨none,0,rfl,by simp,by simp [maxLen],by simp,by simp,0,0,1,.inl trivial,by simp [RelE]⟩,rfl⟩
 ·simp only [if_true] at hz
  simp only [Prod.mk.injEq] at hx
  obtain ⟨rfl,rfl⟩:=hx
  have hreach:cap*8≤140737488351232:=by
   have:=hw ((zs.take len).length*8+(zs.drop len).length*8) (by simp only [DataW.weights,Tryz.underlying22,lits,List.length_map,Tryz.bytes3,Nat.add_mul];simp)
   simp only [List.length_take,List.length_drop,reachBytes] at this
   omega
  have hlen:(zs.take len).length=len:=by rw [List.length_take];omega
  refine ⟨zs.take len,?_,by simp [Value.oneCell'],by omega⟩
  have hpl:0<len→a.spot=none∧a.block<W.heap.size:=fun hpos=>by
   have hc:=hcell 0 (by omega)
   obtain ⟨b,off,spot⟩:=a
   have e0:(⟨b,off,spot⟩:Addr).add 0=⟨b,off,spot⟩:=by simp [Addr.add]
   rw [e0] at hc
   refine ⟨World.cell?_spot hc,?_⟩
   unfold World.cell? at hc
   by_cases hb:b<W.heap.size
   ·exact hb
   ·simp [Array.getElem?_eq_none (by omega:W.heap.size≤b)] at hc
  simp only [RelL,Rel,aE,List.length_map,hlen]
  refine ⟨_,_,rfl,⟨some a,cap,rfl,hl,hm,by simp,by simp,a.block,a.off,1,?_,RelE.mk fun i e he=>?_⟩,rfl⟩
  ·by_cases h0:len=0
   ·subst h0;exact .inl (by simp)
   ·right
    obtain ⟨h1,h2⟩:=hpl (by omega)
    obtain ⟨b,off,spot⟩:=a
    simp only at h1 h2
    subst h1
    exact ⟨rfl,h2⟩
  ·rw [List.getElem?_map] at he
   obtain ⟨n,hn,rfl⟩:=Option.map_eq_some_iff.1 he
   have hil:i<len:=by
    have:=(List.getElem?_eq_some_iff.1 hn).1
    omega
   rw [List.getElem?_take,if_pos hil] at hn
   have hc:=hcell i (by omega)
   rw [List.getD_eq_getElem?_getD,hn] at hc
   obtain ⟨h1,h2⟩:=hpl (by omega)
   obtain ⟨b,off,spot⟩:=a
   simp only at h1
   subst h1
   rw [add_plain] at hc
   refine ⟨rfl,[.int .i64 n],by simp [RelL,Rel],fun q u hq=>?_,by simp [Value.oneCell']⟩
   cases q with
   |zero=>
    simp at hq
    subst hq
    simpa [E0] using hc
   |succ q=>simp at hq
theorem VS {H:Type} {enc:TypeId × Value→H} {W:World} {held:Bool} {fuel:Nat} {cs:List Value} {d:DataW H} {p:List MemPlace} (h:DataW.trod enc Tryz.prog W 0 (fun _=>true) held fuel 50 cs=some (d,p)) (hw:∀ w∈DataW.weights Tryz.prog 50 d,w≤reachBytes):
  ∃ s:Si,RelL (E0 W) [.sl false (aE s.1),.int .i64 s.2] cs∧(∀ u∈cs,u.oneCell'=true)∧s.1.length≤1000000000000000:=by
 have hf:VQ.toList.map (fun f=>(f.offset,f.type))=[(0,22),(1,3)]:=by kernel_rfl
 have hci:Tryz.prog.cellsOf 3=1:=by kernel_rfl
 have hcs:Tryz.prog.cellsOf 22=1:=by kernel_rfl
 have hco:Tryz.prog.cellsOf 50=2:=by kernel_rfl
 have hi:Tryz.prog.underlying 3=some (.int .i64):=by kernel_rfl
 have hu:=VX
 generalize VQ=fs at hf hu
 obtain ⟨fl⟩:=fs
 rcases fl with _|⟨fa,_|⟨fb,_|⟨fc,fl⟩⟩⟩<;>simp only [List.map_cons,List.map_nil,List.cons.injEq,Prod.mk.injEq,reduceCtorEq,and_false,and_true,List.cons_ne_nil] at hf
 obtain ⟨⟨oa,ta⟩,⟨ob,tb⟩⟩:=hf
 obtain ⟨xs,n,rfl,hx,hl,hxl,hfld⟩:=DataW.trod_struct hu h
 rw [hco] at hl
 rcases cs with _|⟨c0,_|⟨c1,_|⟨ce,cs⟩⟩⟩<;>simp only [List.length_cons,List.length_nil] at hl<;>try omega
 have hxl':xs.length=2:=by simpa using hxl
 rcases xs with _|⟨xa,_|⟨xb,_|⟨xe,xs⟩⟩⟩<;>simp only [List.length_cons,List.length_nil] at hxl'<;>try omega
 have h0:=hfld 0 fa rfl
 have h1:=hfld 1 fb rfl
 rw [oa,ta,hcs] at h0
 rw [ob,tb,hci] at h1
 obtain ⟨k,e1,hx1,_⟩:=DataW.trod_int hi h1
 simp only [List.getElem?_cons_zero,List.drop_succ_cons,List.drop_zero,List.take_succ_cons,List.take_zero,List.cons.injEq,and_true] at e1 h0
 subst e1
 simp only [Prod.mk.injEq] at hx
 obtain ⟨rfl,_⟩:=hx
 obtain ⟨xa1,xa2⟩:=xa
 obtain ⟨l,r1,r2,r3⟩:=VT h0 (fun w hww=>hw w (by
  simp only [DataW.weights,hu,List.map_cons,List.map_nil,DataW.weightsEach,ta,List.mem_append]
  exact .inl hww))
 refine ⟨(l,k),?_,?_,r3⟩
 ·have:=RelL.append r1 (show RelL (E0 W) [.int .i64 k] [.int .i64 k] from ⟨_,_,rfl,A6,rfl⟩)
  simpa only [List.cons_append,List.nil_append] using this
 ·intro u hu
  simp only [List.mem_cons,List.not_mem_nil,or_false] at hu r2
  rcases hu with rfl|rfl
  ·exact r2 _ rfl
  ·rfl
theorem VO {β:Type} {R:Nat→β→Prop}:∀ (n:Nat),(∀ i,i<n→∃ y,R i y)→∃ m:List β,m.length=n∧∀ (i:Nat) y,m[i]? =some y→R i y
 |0,_=>⟨[],rfl,by simp⟩
 |n+1,h=>by
  obtain ⟨m,h1,h2⟩:=VO n fun i hi=>h i (by omega)
  obtain ⟨y,hy⟩:=h n (by omega)
  refine ⟨m++[y],by simp [h1],fun i z hz=>?_⟩
  by_cases hi:i<n
  ·rw [List.getElem?_append_left (by omega)] at hz
   exact h2 i z hz
  ·have hlt:=(List.getElem?_eq_some_iff.1 hz).1
   simp only [List.length_append,List.length_singleton] at hlt
   have e:i=n:=by omega
   subst e
   rw [List.getElem?_append_right (by omega),h1,Nat.sub_self] at hz
   simp at hz
   subst hz
   exact hy
theorem VV {H:Type} {enc:TypeId × Value→H} {W:World} {held:Bool} {fuel:Nat} {cs:List Value} {d:DataW H} {p:List MemPlace} (h:DataW.trod enc Tryz.prog W 0 (fun _=>true) held fuel 31 cs=some (d,p)) (hw:∀ w∈DataW.weights Tryz.prog 31 d,w≤reachBytes):
  ∃ M:List Si,RelL (E0 W) [.sl false (mC M)] cs∧(∀ u∈cs,u.oneCell'=true)∧∀ s∈M,s.1.length≤1000000000000000:=by
 have hf:VU.toList.map (fun f=>(f.offset,f.type))=[(0,29)]:=by kernel_rfl
 have hcs:Tryz.prog.cellsOf 29=1:=by kernel_rfl
 have hco:Tryz.prog.cellsOf 31=1:=by kernel_rfl
 have hcn:Tryz.prog.cellsOf 50=2:=by kernel_rfl
 have hs:Tryz.prog.underlying 29=some (.slice 50):=by kernel_rfl
 have hu:=VW
 generalize VU=fs at hf hu
 obtain ⟨fl⟩:=fs
 rcases fl with _|⟨fa,_|⟨fb,fl⟩⟩<;>simp only [List.map_cons,List.map_nil,List.cons.injEq,Prod.mk.injEq,reduceCtorEq,and_false,and_true,List.cons_ne_nil] at hf
 obtain ⟨oa,ta⟩:=hf
 obtain ⟨xs,n,rfl,hx,hl,hxl,hfld⟩:=DataW.trod_struct hu h
 rw [hco] at hl
 rcases cs with _|⟨c0,_|⟨ce,cs⟩⟩<;>simp only [List.length_cons,List.length_nil] at hl<;>try omega
 have hxl':xs.length=1:=by simpa using hxl
 rcases xs with _|⟨xa,_|⟨xe,xs⟩⟩<;>simp only [List.length_cons,List.length_nil] at hxl'<;>try omega
 have h0:=hfld 0 fa rfl
 rw [oa,ta,hcs] at h0
 simp only [List.getElem?_cons_zero,List.drop_zero,List.take_succ_cons,List.take_zero] at h0
 simp only [Prod.mk.injEq] at hx
 obtain ⟨rfl,_⟩:=hx
 have hw':∀ w∈DataW.weights Tryz.prog 29 xa.1,w≤reachBytes:=fun w hww=>hw w (by
  simp only [DataW.weights,hu,List.map_cons,List.map_nil,DataW.weightsEach,ta,List.mem_append]
  exact .inl hww)
 rcases DataW.trod_slice hs h0 with ⟨e3,hx3⟩|⟨a,len,cap,elems,rest,n',rfl,e3,rfl,_,hlc,hcm,hlen,hel,_,_⟩
 ·simp only [List.cons.injEq,and_true] at e3
  subst e3
  refine ⟨[],?_,by simp [Value.oneCell'],fun s h=>by cases h⟩
  simp only [mC,List.map_nil,RelL,Rel]
  exact ⟨_,_,rfl,⟨none,0,rfl,by simp,by simp [maxLen],by simp,by simp,0,0,2,.inl trivial,by simp [RelE]⟩,rfl⟩
 ·simp only [List.cons.injEq,and_true] at e3
  subst e3
  obtain ⟨M,hM,hk⟩:=VO (R:=fun (i:Nat) (s:Si)=>∃ c1,W.cells? 0 (a.add (i*Tryz.prog.cellsOf 50)) (Tryz.prog.cellsOf 50)=some c1∧RelL (E0 W) [.sl false (aE s.1),.int .i64 s.2] c1∧(∀ u∈c1,u.oneCell'=true)∧s.1.length≤1000000000000000) len fun i hlt=>by
   have h4:=hel i hlt
   rw [List.getElem?_eq_getElem (by omega),Option.bind_eq_some_iff] at h4
   obtain ⟨c1,hc1,h5⟩:=h4
   have hmem:(elems[i]'(by omega)).1∈elems.map (·.1):=List.mem_map_of_mem (List.getElem_mem _)
   obtain ⟨s,h6,h7,h8⟩:=VS h5 (fun w hww=>hw' w (by
    simp only [DataW.weights,hs,List.mem_cons,List.mem_append]
    exact .inr (.inl (VM hmem w hww))))
   exact ⟨s,c1,hc1,h6,h7,h8⟩
  obtain ⟨b,off,spot⟩:=a
  have hplain:0<len→spot=none∧b<W.heap.size:=by
   intro hpos
   obtain ⟨c1,hc1,_⟩:=hk 0 _ (List.getElem?_eq_getElem (by omega))
   obtain ⟨m1,m2⟩:=VP (by simpa only [Nat.zero_mul,Addr.add,if_true] using hc1)
   have hcell:=m2 0 _ (List.getElem?_eq_getElem (by rw [m1,hcn];omega))
   have e0:(⟨b,off,spot⟩:Addr).add 0=⟨b,off,spot⟩:=by simp [Addr.add]
   rw [e0] at hcell
   refine ⟨World.cell?_spot hcell,?_⟩
   unfold World.cell? at hcell
   by_cases hb:b<W.heap.size
   ·exact hb
   ·simp [Array.getElem?_eq_none (by omega:W.heap.size≤b)] at hcell
  refine ⟨M,?_,by simp [Value.oneCell'],fun s hs=>?_⟩
  ·simp only [RelL,Rel]
   refine ⟨_,_,rfl,⟨some ⟨b,off,spot⟩,cap,by rw [gQ,hM],by rw [gQ,hM];exact hlc,hcm,by simp,by simp,b,off,2,?_,RelE.mk fun i x hx=>?_⟩,rfl⟩
   ·by_cases h0:0<len
    ·obtain ⟨rfl,hb⟩:=hplain h0
     exact .inr ⟨rfl,hb⟩
    ·left
     have:M=[]:=List.eq_nil_of_length_eq_zero (by omega)
     rw [this];rfl
   ·rw [mC,List.getElem?_map,Option.map_eq_some_iff] at hx
    obtain ⟨s,hs',rfl⟩:=hx
    have hil:i<len:=by have:=(List.getElem?_eq_some_iff.1 hs').1;omega
    obtain ⟨rfl,hb⟩:=hplain (by omega)
    obtain ⟨c1,hc1,r1,r2,_⟩:=hk i s hs'
    rw [add_plain,hcn] at hc1
    obtain ⟨m1,m2⟩:=VP hc1
    refine ⟨by rw [← r1.length,m1],c1,r1,fun j u hj=>?_,r2⟩
    have:=m2 j u hj
    rw [add_plain] at this
    exact this
  ·obtain ⟨i,hi⟩:=List.getElem?_of_mem hs
   obtain ⟨c1,_,_,_,r3⟩:=hk i s hi
   exact r3
end Go.Proofs.YtggflhbigolakaaGreatDoor
