import Derived.Test.YtggflhbigolakaaGreatDoorUS
import Derived.Test.YtggflhbigolakaaGreatDoorUC
set_option linter.unusedVariables false
set_option linter.unusedSimpArgs false
namespace Go.Proofs.YtggflhbigolakaaGreatDoor
open Go.AM
attribute [local irreducible] AWp aY bC bI bU bW aN aS bL
set_option maxRecDepth 100000
def V0 (OL x y:List (List AV)) (E:Nat→Bool) (k:Nat):Prop:=∃ (ix ix':List (List AV)) (j:Nat) (op:Int) (onm:ByteArray) (ofa ofb ofc opa opb opc oob:Int) (ofd opd:List (List AV)),
 y[k]? =some [.sl false ix,.int .i64 (j:Nat)]∧x[k]? =some [.sl false ix',.int .i64 op]∧OL[j]? =some [AV.str onm,.int .i64 ofa,.int .i64 ofb,.int .i64 ofc,.sl false ofd,.int .i64 opa,.int .i64 opb,.int .i64 opc,.sl false opd,.int .i64 oob]∧E (k+1)=(E k&&(oob==op))
def UZ (P:AV) (OL x y:List (List AV)):Prop:=∃ (ta tb tc:Int) (td:List (List AV)) (E:Nat→Bool) (z:List (List AV)) (ez:Int),inE aC td=true∧inE aC z=true∧
 Pure Tryz.prog G0 13 [P,.sl false OL,.agg [.sl false x]] (.tup [.agg [.int .i64 ta,.int .i64 tb,.int .i64 tc,.sl false td],.int .i64 0])∧Pure Tryz.prog G0 13 [.agg [.int .i64 ta,.int .i64 tb,.int .i64 tc,.sl false td],.sl false OL,.agg [.sl false y]] (.tup [P,.int .i64 0])∧
 Pure Tryz.prog G0 15 [P,P] (.bool true)∧E 0=true∧(∀ k,k<y.length→V0 OL x y E k)∧y.length≤1000∧
 Pure Tryz.prog G0 27 [.agg [.int .i64 ta,.int .i64 tb,.int .i64 tc,.sl false td],.sl false OL,.agg [.sl false y]] (.tup [.agg [.sl false z],.int .i64 ez])∧(E y.length=true→ez=0∧z=x)∧
 Pure Tryz.prog G0 29 [.agg [.sl false x],.agg [.sl false x]] (.bool true)
def TT (P:AV) (OL x:List (List AV)):Prop:=∃ (y:List (List AV)) (e:Int),inE aC y=true∧
 Pure Tryz.prog G0 27 [P,.sl false OL,.agg [.sl false x]] (.tup [.agg [.sl false y],.int .i64 e])∧Pure Tryz.prog G0 28 [P,.sl false OL,.agg [.sl false x]] (.tup [.agg [.sl false y],.int .i64 e])∧
 Pure Tryz.prog G0 29 [.agg [.sl false y],.agg [.sl false y]] (.bool true)∧(e≠0∨(e=0∧UZ P OL x y))
set_option maxHeartbeats 32000000 in
theorem UY (hlv : Pure Tryz.prog G0 16 [] (.bool true)) (l m n : List Int) (how by0 : Int) (ca cb cc : Int) (cd : List (List AV)) (OL x0 x1 : List (List AV)) (htc : inE aC cd = true) (hto : inE aC OL = true) (hx0 : inE aC x0 = true) (hx1 : inE aC x1 = true)
  (klab:Pure Tryz.prog G0 10 [b9 l,b9 m] (.tup [.agg [.int .i64 ca,.int .i64 cb,.int .i64 cc,.sl false cd],.sl false OL])) (kmut:Pure Tryz.prog G0 11 [.agg [.int .i64 ca,.int .i64 cb,.int .i64 cc,.sl false cd],.sl false OL,b9 n] (.agg [.sl false x0])) (ksp:Pure Tryz.prog G0 12 [.agg [.sl false x0],.int .i64 how,.int .i64 by0] (.agg [.sl false x1]))
  (h0:TT (.agg [.int .i64 ca,.int .i64 cb,.int .i64 cc,.sl false cd]) OL x0) (h1:TT (.agg [.int .i64 ca,.int .i64 cb,.int .i64 cc,.sl false cd]) OL x1):
  Pure Tryz.prog G0 7 [b9 l,b9 m,b9 n,.int .i64 how,.int .i64 by0] (.bool true):=by
 have hl1:inR aC (b9 l)=true:=eW l
 have hm1:inR aC (b9 m)=true:=eW m
 have hn1:inR aC (b9 n)=true:=eW n
 generalize b9 l=el at klab hl1 ⊢
 generalize b9 m=em at klab hm1 ⊢
 generalize b9 n=en at kmut hn1 ⊢
 obtain ⟨L2,hL2⟩:∃ L2,L2=[[AV.sl false x0],[.sl false x1]]:=⟨_,rfl⟩
 have hLl:L2.length=2:=by rw [hL2];rfl
 have hLt:inE aC L2=true:=by rw [hL2];simp only [inE,inL,inR,hx0,hx1,Bool.and_self]
 have hLg:∀ i,i<2→∃ x,L2[i]? =some [.sl false x]∧TT (.agg [.int .i64 ca,.int .i64 cb,.int .i64 cc,.sl false cd]) OL x∧inE aC x=true:=fun i hi=>by
  rw [hL2]
  obtain rfl|rfl:i=0∨i=1:=by omega
  ·exact ⟨x0,rfl,h0,hx0⟩
  ·exact ⟨x1,rfl,h1,hx1⟩
 refine aQ hG0 Tryz.func7 rfl (by kernel_rfl) (by simp [Tryz.ntmps7]) (by simp only [inL,Bool.and_true,Bool.and_eq_true];exact ⟨hl1,hm1,hn1,rfl,rfl⟩) (by rfl) ?_
 simp only [Tryz.ntmps7,aH,Nat.reduceAdd]
 repeat' (first|(refine u'S ?_;simp only [wS,simprocAttr])|refine u'Q fun _ _=>?_|refine aO ?_|refine aP (fun hg=>?_) fun hg=>?_|refine u'G ?_|fail)
 refine aJ (α:={i:Nat // i≤2}) (fun i=>[(10,.bool false),(11,.ptr 0 0 0),(12,.sl false OL),(14,.sl true L2),(15,.int .i64 (i.1:Nat))]) (fun _=>[.cells 0 [.int .i64 ca,.int .i64 cb,.int .i64 cc,.sl false cd]]) (fun i=>2 - i.1) ⟨0,Nat.zero_le _⟩ (bN [] (kp [0]) hG0 (fun r hr=>absurd hr (Nat.not_lt_zero r)) ?_ ?_ ?_) ?_
 ·rw [hL2]
  simp only [wS,simprocAttr,cS,Frz,and_true,true_or]
 ·simp only [List.all_cons,List.all_nil,inR,aA hto,aA hLt,Bool.and_true,Bool.true_and]
  rfl
 ·simp only [wS,simprocAttr]
  simp only [ToH,and_true]
  exact ⟨kr rfl (aD (by simp only [inL,inR,htc,Bool.and_self])) (by simp),rfl⟩
 ·rintro ⟨i,hi⟩ K1 hK1
  try simp only at hi
  by_cases hlt:i<2
  ·have c1 : decide (((i : Nat) : Int) < 2) = true := by simp; omega
   have e3:=aL (k:=i) hlt (by omega)
   obtain ⟨x,hle,⟨y,e,hty,kb,krb,kss,hgood⟩,htx⟩:=hLg i hlt
   have hA:i<L2.length:=by omega
   have en:(e != e)=false:=by simp
   rcases hgood with he|⟨rfl,ta,tb,tc,td,E,z,ez,htt,htz,kmk,kmu,ksP,hE0,hin,hyl,kb2,hEz,ksx⟩
   ·have ez:(e != 0)=true:=by simp [he]
    repeat' (first|(refine u'S ?_;simp only [wS,simprocAttr,hle,hlt,hA,hLl,c1,e3,en,ez,Bool.not_true,Bool.not_false])|refine u'Q fun _ _=>?_|refine aO ?_|refine aP (fun hg=>?_) fun hg=>?_|refine u'G ?_|fail)
    refine hK1.go ⟨i+1,hlt⟩ (Weak.ref ⟨?_,.inr ⟨by first|exact Nat.zero_le _|exact Nat.le_refl _|simp,?_,fun g cs hg=>aD (hG0 g cs hg),?_,?_⟩⟩) (by simp only;omega)
    ·exact u'p
    ·exact u'p
    ·intro z hz
     simp only [List.mem_cons,List.not_mem_nil,or_false] at hz
     rcases hz with rfl|rfl|rfl|rfl|rfl<;>first|rfl|(simp only [inR];first|exact aA hto|exact aA hLt)
    ·simp only [List.all_cons,List.all_nil,Bool.and_true,Bool.and_eq_true];try exact aD (by simp only [inL,inR,htc,Bool.and_self])
   ·have ez0:((0:Int) != 0)=false:=rfl
    repeat' (first|(refine u'S ?_;simp only [wS,simprocAttr,hle,hlt,hA,hLl,c1,e3,en,ez0,Bool.not_true,Bool.not_false])|refine u'Q fun _ _=>?_|refine aO ?_|refine aP (fun hg=>?_) fun hg=>?_|refine u'G ?_|fail)
    refine aJ (α:={k:Nat // k≤y.length}) (fun k=>[(10,.bool false),(11,.ptr 0 0 0),(12,.sl false OL),(14,.sl true L2),(15,.int .i64 (i:Nat)),(16,.ptr 1 0 0),(20,.ptr 3 0 0),(24,.bool (E k.1)),(25,.int .i64 (k.1:Nat))]) (fun _=>[.cells 0 [.int .i64 ca,.int .i64 cb,.int .i64 cc,.sl false cd],.cells 0 [.sl false y],.cells 0 [.sl false y],.cells 0 [.int .i64 ta,.int .i64 tb,.int .i64 tc,.sl false td],.cells 0 [.int .i64 ca,.int .i64 cb,.int .i64 cc,.sl false cd]]) (fun k=>y.length - k.1) ⟨0,Nat.zero_le _⟩ (Weak.ref ⟨?_,.inl ?_⟩) ?_
    ·simp only [wS,simprocAttr,hE0];try exact rfl
    ·exact u'p
    ·rintro ⟨k,hk⟩ K2 hK2
     try simp only at hk
     by_cases hkl:k<y.length
     ·have d1:decide (((k:Nat):Int)<((y.length:Nat):Int))=true:=by simp;omega
      have f3:=aL (k:=k) hkl (by omega)
      obtain ⟨ix,ix',j,op,onm,ofa,ofb,ofc,opa,opb,opc,oob,ofd,opd,gy,gx,go,hES⟩:=hin k hkl
      have hxk:k<x.length:=(List.getElem?_eq_some_iff.1 gx).1
      have hj:j<OL.length:=(List.getElem?_eq_some_iff.1 go).1
      cases hEk:E k with
      |true=>
       rw [hEk,Bool.true_and] at hES
       repeat' (first|(refine u'S ?_;simp only [wS,simprocAttr,gy,gx,go,hle,hA,hxk,hj,hEk,d1,f3,hkl])|refine u'Q fun _ _=>?_|refine aO ?_|refine aP (fun hg=>?_) fun hg=>?_|fail)
       refine hK2.go ⟨k+1,hkl⟩ (Weak.ref ⟨?_,.inr ⟨by first|exact Nat.zero_le _|exact Nat.le_refl _|simp,?_,fun g cs hg=>aD (hG0 g cs hg),?_,?_⟩⟩) (by simp only;omega)
       ·simp only [wS,simprocAttr,hES];try exact rfl
       ·exact u'p
       ·intro z hz
        simp only [List.mem_cons,List.not_mem_nil,or_false] at hz
        rcases hz with rfl|rfl|rfl|rfl|rfl|rfl|rfl|rfl|rfl<;>first|rfl|(simp only [inR];first|exact aA hto|exact aA hLt)
       ·simp only [List.all_cons,List.all_nil,Bool.and_true,Bool.and_eq_true];try exact ⟨aD (by simp only [inL,inR,htc,Bool.and_self]),aD (by simp only [inL,inR,hty,Bool.and_self]),aD (by simp only [inL,inR,hty,Bool.and_self]),aD (by simp only [inL,inR,htt,Bool.and_self]),aD (by simp only [inL,inR,htc,Bool.and_self])⟩
      |false=>
       rw [hEk,Bool.false_and] at hES
       repeat' (first|(refine u'S ?_;simp only [wS,simprocAttr,gy,gx,go,hle,hA,hxk,hj,hEk,d1,f3,hkl])|refine u'Q fun _ _=>?_|refine aO ?_|refine aP (fun hg=>?_) fun hg=>?_|fail)
       refine hK2.go ⟨k+1,hkl⟩ (Weak.ref ⟨?_,.inr ⟨by first|exact Nat.zero_le _|exact Nat.le_refl _|simp,?_,fun g cs hg=>aD (hG0 g cs hg),?_,?_⟩⟩) (by simp only;omega)
       ·simp only [wS,simprocAttr,hES];try exact rfl
       ·exact u'p
       ·intro z hz
        simp only [List.mem_cons,List.not_mem_nil,or_false] at hz
        rcases hz with rfl|rfl|rfl|rfl|rfl|rfl|rfl|rfl|rfl<;>first|rfl|(simp only [inR];first|exact aA hto|exact aA hLt)
       ·simp only [List.all_cons,List.all_nil,Bool.and_true,Bool.and_eq_true];try exact ⟨aD (by simp only [inL,inR,htc,Bool.and_self]),aD (by simp only [inL,inR,hty,Bool.and_self]),aD (by simp only [inL,inR,hty,Bool.and_self]),aD (by simp only [inL,inR,htt,Bool.and_self]),aD (by simp only [inL,inR,htc,Bool.and_self])⟩
     ·have d1:decide (((k:Nat):Int)<((y.length:Nat):Int))=false:=by simp;omega
      obtain rfl:k=y.length:=by omega
      cases hEk:E y.length with
      |true=>
       obtain ⟨rfl,rfl⟩:=hEz hEk
       repeat' (first|(refine u'S ?_;simp only [wS,simprocAttr,hle,hA,hEk,d1,ez0,e3,Bool.not_true,Bool.not_false])|refine u'Q fun _ _=>?_|refine aO ?_|refine aP (fun hg=>?_) fun hg=>?_|refine u'G ?_|fail)
       refine hK1.go ⟨i+1,hlt⟩ (Weak.ref ⟨?_,.inr ⟨by first|exact Nat.zero_le _|exact Nat.le_refl _|simp,?_,fun g cs hg=>aD (hG0 g cs hg),?_,?_⟩⟩) (by simp only;omega)
       ·exact u'p
       ·exact u'p
       ·intro z hz
        simp only [List.mem_cons,List.not_mem_nil,or_false] at hz
        rcases hz with rfl|rfl|rfl|rfl|rfl<;>first|rfl|(simp only [inR];first|exact aA hto|exact aA hLt)
       ·simp only [List.all_cons,List.all_nil,Bool.and_true,Bool.and_eq_true];try exact aD (by simp only [inL,inR,htc,Bool.and_self])
      |false=>
       repeat' (first|(refine u'S ?_;simp only [wS,simprocAttr,hle,hA,hEk,d1,ez0,e3,Bool.not_true,Bool.not_false])|refine u'Q fun _ _=>?_|refine aO ?_|refine aP (fun hg=>?_) fun hg=>?_|refine u'G ?_|fail)
       refine hK1.go ⟨i+1,hlt⟩ (Weak.ref ⟨?_,.inr ⟨by first|exact Nat.zero_le _|exact Nat.le_refl _|simp,?_,fun g cs hg=>aD (hG0 g cs hg),?_,?_⟩⟩) (by simp only;omega)
       ·exact u'p
       ·exact u'p
       ·intro z hz
        simp only [List.mem_cons,List.not_mem_nil,or_false] at hz
        rcases hz with rfl|rfl|rfl|rfl|rfl<;>first|rfl|(simp only [inR];first|exact aA hto|exact aA hLt)
       ·simp only [List.all_cons,List.all_nil,Bool.and_true,Bool.and_eq_true];try exact aD (by simp only [inL,inR,htc,Bool.and_self])
  ·have c1:decide (((i:Nat):Int)<2)=false:=by simp;omega
   repeat' (first|(refine u'S ?_;simp only [wS,simprocAttr,c1])|refine u'Q fun _ _=>?_|refine aO ?_|refine aP (fun hg=>?_) fun hg=>?_|(refine bH hG0 (hlv) ?_;simp only [wS,simprocAttr]))
   refine aB rfl ?_
   simp only [wS,simprocAttr]
theorem UO {c:T} {O:List OpT} {M:List Si} (h:(TF c O M).2=0):∃ W,dE M=true∧fX c O c M=some W∧(∀ s∈M,inO O (TH O s.2)=true)∧fX W O W (M.map (bkS O))=some c∧TF c O M=(M.map (bkS O),0):=by
 unfold TF at h ⊢
 split at h
 ·rename_i ha
  rw [if_pos ha]
  split at h
  ·cases h
  ·rename_i W hW
   split at h
   ·rename_i hall
    cases hX:fX W O W (M.map (bkS O)) with
    |none=>rw [hX] at h;cases h
    |some X=>
     rw [hX] at h
     simp only [TJ] at h
     split at h
     ·rename_i hz
      have hXc:X=c:=(T.cmp_zero X c).1 hz
      subst hXc
      simp only [hW,if_pos hall]
      exact ⟨W,ha,rfl,fun s hs=>List.all_eq_true.1 hall s hs,hX,by simp only [TJ,if_pos hz]⟩
     ·cases h
   ·cases h
 ·cases h
theorem UP {c W:T} {O:List OpT} {M:List Si} (ha:dE M=true) (hW:fX c O c M=some W) (hin:∀ s∈M,inO O (TH O s.2)=true) (hb:fX W O W (M.map (bkS O))=some c):TF c O M=(M.map (bkS O),0):=by
 rw [TF,if_pos ha]
 simp only [hW]
 rw [if_pos (List.all_eq_true.2 fun s hs=>hin s hs),hb]
 simp only [TJ,if_pos ((T.cmp_zero c c).2 rfl)]
theorem UH (c:T) (O:List OpT) (M:List Si):(TF c O M).1=[]∨(TF c O M).1=M.map (bkS O):=by
 unfold TF
 split
 ·split
  ·exact .inl rfl
  ·split
   ·unfold TJ
    split
    ·split
     ·exact .inr rfl
     ·exact .inl rfl
    ·exact .inl rfl
   ·exact .inl rfl
 ·exact .inl rfl
theorem UG {c:T} {O:List OpT} {M:List Si} {B:Nat} (hM:M.length≤1000) (hp:∀ s∈M,s.1.length≤B):(TF c O M).1.length≤1000∧∀ s∈(TF c O M).1,s.1.length≤B:=by
 rcases UH c O M with h|h
 ·rw [h];exact ⟨Nat.zero_le _,fun s hs=>by cases hs⟩
 ·rw [h]
  exact ⟨by rw [List.length_map];exact hM,fun s hs=>by obtain ⟨x,hx,rfl⟩:=List.mem_map.1 hs;exact hp x hx⟩
theorem TW (L:List Si) (hL:L.length≤1000) (hp:∀ s∈L,s.1.length≤1000000000000):Pure Tryz.prog G0 29 [.agg [.sl false (mC L)],.agg [.sl false (mC L)]] (.bool true):=by
 have k:=US L L (by omega) fun s hs=>Nat.le_trans (hp s hs) (by decide)
 rw [UE] at k
 exact k
theorem U0 (c:T) (hc:T.size c≤16000000000) (O:List OpT) (hO:∀ o∈O,OpB o) (M:List Si) (hM:M.length≤1000) (hp:∀ s∈M,s.1.length≤1000000000000):TT (.agg (T.enc c)) (O.map opC) (mC M):=by
 have hp2:∀ s∈M,s.1.length≤2000000000000:=fun s hs=>Nat.le_trans (hp s hs) (by decide)
 have hsz:dE M=true→∀ W,fX c O c M=some W→T.size W≤600000000000:=fun ha W h=>by
  obtain ⟨f,nd,H,rfl⟩:=TK ha h hp2
  exact H.size hc
 have hsz1:dE M=true→∀ W,fX c O c M=some W→T.size W≤1000000000000:=fun ha W h=>Nat.le_trans (hsz ha W h) (by decide)
 have kb:=UN c (by omega) O hO M hM hp hsz1
 have krb:=UV c (by omega) O hO M hM hp hsz1
 obtain ⟨b1,b2⟩:=UG (c:=c) (O:=O) hM hp
 have kss:=TW _ b1 b2
 simp only [mV,TZ] at kb krb
 refine ⟨_,_,cK _,kb,krb,kss,?_⟩
 by_cases he:(TF c O M).2=0
 ·refine .inr ⟨he,?_⟩
  obtain ⟨W,ha,hW,hin,hb,hM'⟩:=UO he
  have hWs:=hsz ha W hW
  have hL:(TF c O M).1=M.map (bkS O):=by rw [hM']
  rw [hL]
  rw [hL] at b1 b2
  have hLa:dE (M.map (bkS O))=true:=by rw [TI];exact ha
  have kmk:=Q2 c (by omega) O hO M (by omega) hp2
  have kmu:=Q2 W (by omega) O hO (M.map (bkS O)) (by omega) fun s hs=>Nat.le_trans (b2 s hs) (by decide)
  rw [jS,if_pos ha,hW] at kmk
  rw [jS,if_pos hLa,hb] at kmu
  simp only [mV,JV] at kmk kmu
  have ksP:=FG c c (by omega)
  rw [show (T.cmp c c==0)=true by rw [(T.cmp_zero c c).2 rfl];rfl] at ksP
  have kb2:=UN W (by omega) O hO (M.map (bkS O)) b1 b2 (fun _ X hX=>by rw [hb] at hX;cases hX;omega)
  simp only [mV,TZ] at kb2
  have htw:=T.enc_tree W
  obtain ⟨ta,tb,tc,td,hte⟩:=aI W
  rw [hte] at kmk kmu kb2 htw
  refine ⟨ta,tb,tc,td,fun k=>(M.take k).all (fun s=>TH O (TH O s.2)==s.2),_,_,by simpa only [inL,inR,Bool.and_true,Bool.true_and] using htw,cK _,kmk,kmu,ksP,rfl,fun k hk=>?_,by rw [gQ];exact b1,kb2,fun hE=>?_,TW M hM hp⟩
  ·rw [gQ,List.length_map] at hk
   obtain ⟨s,hs⟩:∃ s,M[k]? =some s:=⟨_,List.getElem?_eq_getElem hk⟩
   have hi:=hin s (List.mem_of_getElem? hs)
   simp only [inO,Bool.and_eq_true,decide_eq_true_eq] at hi
   obtain ⟨j,hj⟩:∃ j:Nat,TH O s.2=j:=⟨(TH O s.2).toNat,by omega⟩
   obtain ⟨o,ho⟩:∃ o,O[j]? =some o:=⟨_,List.getElem?_eq_getElem (by omega)⟩
   have hoo:TH O (TH O s.2)=o.2.2.2:=TQ (by rw [hj,atO,if_pos (by omega)];simpa using ho)
   have gy:=jG (show (M.map (bkS O))[k]? =some (bkS O s) by rw [List.getElem?_map,hs];rfl)
   have gx:=jG hs
   have go:(O.map opC)[j]? =some (opC o):=by rw [List.getElem?_map,ho];rfl
   have hE:(M.take (k+1)).all (fun s=>TH O (TH O s.2)==s.2)=((M.take k).all (fun s=>TH O (TH O s.2)==s.2)&&(o.2.2.2==s.2)):=by
    rw [List.take_add_one,hs,List.all_append,← hoo];simp
   simp only [bkS,hj] at gy
   obtain ⟨onm,of',op,oob⟩:=o
   obtain ⟨ofa,ofb,ofc,ofd,hfe⟩:=aI of'
   obtain ⟨opa,opb,opc,opd,hpe⟩:=aI op
   simp only [opC,opE,hfe,hpe,List.cons_append,List.nil_append] at go
   exact ⟨_,_,j,_,_,_,_,_,_,_,_,_,_,_,gy,gx,go,hE⟩
  ·rw [gQ,List.length_map] at hE
   simp only [List.take_length] at hE
   have hEs:=List.all_eq_true.1 hE
   have hMM:(M.map (bkS O)).map (bkS O)=M:=by
    rw [List.map_map]
    conv=>rhs;rw [← List.map_id M]
    refine List.map_congr_left fun s hs=>?_
    have h1:=hEs s hs
    simp only [beq_iff_eq] at h1
    show (s.1,TH O (TH O s.2))=s
    rw [h1]
   have hr:=UP hLa hb (fun s hs=>by
    obtain ⟨x,hx,rfl⟩:=List.mem_map.1 hs
    have h1:=hEs x hx
    simp only [beq_iff_eq] at h1
    show inO O (TH O (TH O x.2))=true
    rw [h1]
    obtain ⟨u,hu⟩:=TG hW x hx
    obtain ⟨n,o,_,ho,_,_⟩:=qC hu
    obtain ⟨j,hj,hoj⟩:=EQ ho
    have:=(List.getElem?_eq_some_iff.1 hoj).1
    simp only [inO,Bool.and_eq_true,decide_eq_true_eq]
    omega) (by rw [hMM];exact hW)
   rw [hr,hMM]
   exact ⟨rfl,rfl⟩
 ·exact .inl he
theorem TV (l m n:List Int) (how by0:Int) (hl:∀ x∈l,cI x) (hm:∀ x∈m,cI x) (hn:∀ x∈n,cI x) (hh:cI how) (hb:cI by0):Pure Tryz.prog G0 7 [b9 l,b9 m,b9 n,.int .i64 how,.int .i64 by0] (.bool true):=by
 obtain ⟨c,O,klab,hc,hO7,hOB,_⟩:=OP l m hl hm
 obtain ⟨M,kM,hM5,_,hMs⟩:=DD c hc O hOB (by omega) n hn
 have hMp:∀ s∈M,s.1.length≤16000000000:=fun s hs=>by
  obtain ⟨x,hx,rfl⟩:=hMs s hs
  have:=n7 c O x hx
  show x.1.length≤_
  omega
 obtain ⟨Y,kY,hY,hYp⟩:=xX M 16000000000 (by decide) (by omega) hMp how by0 hh hb
 have h0:=U0 c hc O hOB M (by omega) fun s hs=>Nat.le_trans (hMp s hs) (by decide)
 have h1:=U0 c hc O hOB Y (by omega) fun s hs=>Nat.le_trans (hYp s hs) (by decide)
 have htc:=T.enc_tree c
 obtain ⟨ca,cb,cc,cd,hce⟩:=aI c
 rw [hce] at klab kM h0 h1 htc
 simp only [mV] at kM kY
 exact UY DK l m n how by0 ca cb cc cd (O.map opC) (mC M) (mC Y) (by simpa only [inL,inR,Bool.and_true,Bool.true_and] using htc) (eI O) (cK M) (cK Y) klab kM kY h0 h1
end Go.Proofs.YtggflhbigolakaaGreatDoor
