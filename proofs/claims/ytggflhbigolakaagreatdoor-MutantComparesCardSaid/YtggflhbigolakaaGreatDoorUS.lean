import Derived.Test.YtggflhbigolakaaGreatDoorUJ
import Derived.Test.YtggflhbigolakaaGreatDoorUL
import Derived.Test.YtggflhbigolakaaGreatDoorUN
import Derived.Test.YtggflhbigolakaaGreatDoorUP
import Derived.Test.YtggflhbigolakaaGreatDoorUR
set_option linter.unusedVariables false
set_option linter.unusedSimpArgs false
namespace Go.Proofs.YtggflhbigolakaaGreatDoor
open Go.AM
attribute [local irreducible] AWp aY bC bI bU bW aN aS bL
set_option maxRecDepth 100000
theorem T.set_le:∀ (p:List Int) (t x:T),T.size (T.set t p x)≤T.size t+T.size x
 | [],t,x=>by rw [T.set];omega
 | i :: p, t, x => by
  rw [T.set]
  split
  ·split
   ·rename_i e he
    have h1:=T.set_le p e x
    cases t with
    |mk k n m es=>
     have h2:=T.sizes_set (u:=T.set e p x) he
     simp only [T.kids,T.kind,T.num,T.low,T.size] at h2 ⊢
     omega
   ·omega
  ·omega
theorem uJ {c:T} (hc:T.size c≤16000000000) (O:List OpT):∀ (M:List Si) (out u:T),fX c O out M=some u→T.size u≤T.size out+M.length*512000000000
 | [],out,u,h=>by rw [fX] at h;cases h;simp
 |s::M,out,u,h=>by
  rw [fX] at h
  split at h
  ·cases h
  ·rename_i x hx
   obtain ⟨n,o,h1,h2,h3,h4⟩:=qC hx
   have hxs:T.size x≤512000000000:=nM (B:=16000000000) (by decide) (Nat.le_trans (T.sub_size h1) hc) h4
   have h5:=uJ hc O M _ u h
   have h6:=T.set_le s.1 out x
   simp only [List.length_cons]
   omega
def qA (cs:List AV) (OL:List (List AV)) (e:List (List AV)):Prop:=∃ (da db dc:Int) (dd:List (List AV)) (k:Int),inE aC dd=true∧Pure Tryz.prog G0 13 [.agg cs,.sl false OL,.agg [.sl false e]] (.tup [.agg [.int .i64 da,.int .i64 db,.int .i64 dc,.sl false dd],.int .i64 k])∧Pure Tryz.prog G0 14 [.agg cs,.sl false OL,.agg [.sl false e]] (.tup [.agg [.int .i64 da,.int .i64 db,.int .i64 dc,.sl false dd],.int .i64 k])∧Pure Tryz.prog G0 15 [.agg [.int .i64 da,.int .i64 db,.int .i64 dc,.sl false dd],.agg [.int .i64 da,.int .i64 db,.int .i64 dc,.sl false dd]] (.bool true)
theorem sS (c:T) (hc:T.size c≤16000000000) (O:List OpT) (hO:∀ o∈O,OpB o) (M:List Si) (hM:M.length≤1000) (hp:∀ s∈M,s.1.length≤2000000000000):qA (T.enc c) (O.map opC) (mC M):=by
 have k1:=Q2 c (by omega) O hO M (by omega) hp
 have k2:=MY c (by omega) O hO M (by omega) hp
 have key:∃ (u:T) (k:Int),jS c O M=.tup [.agg (T.enc u),.int .i64 k]∧T.size u≤100000000000000000:=by
  unfold jS
  split
  ·cases hm:fX c O c M with
   |none=>exact ⟨.mk 0 0 0 [],6,rfl,by decide⟩
   |some u=>
    have:=uJ hc O M c u hm
    exact ⟨u,0,rfl,by omega⟩
  ·exact ⟨.mk 0 0 0 [],1,rfl,by decide⟩
 obtain ⟨u,k,hu,hs⟩:=key
 rw [hu] at k1 k2
 have k3:=FG u u hs
 rw [show (T.cmp u u==0)=true by rw [(T.cmp_zero u u).2 rfl];rfl] at k3
 have ht:=T.enc_tree u
 obtain ⟨da,db,dc,dd,he⟩:=aI u
 rw [he] at k1 k2 k3 ht
 exact ⟨da,db,dc,dd,k,by simpa only [inL,inR,Bool.and_true,Bool.true_and] using ht,k1,k2,k3⟩
set_option maxHeartbeats 16000000 in
theorem RW (hlv:Pure Tryz.prog G0 16 [] (.bool true)) (l m n:List Int) (how by0:Int) (ca cb cc:Int) (cd:List (List AV)) (OL x y z:List (List AV)) (htc:inE aC cd=true) (hto:inE aC OL=true) (htx:inE aC x=true) (hty:inE aC y=true) (htz:inE aC z=true)
  (klab:Pure Tryz.prog G0 10 [b9 l,b9 m] (.tup [.agg [.int .i64 ca,.int .i64 cb,.int .i64 cc,.sl false cd],.sl false OL])) (kmut:Pure Tryz.prog G0 11 [.agg [.int .i64 ca,.int .i64 cb,.int .i64 cc,.sl false cd],.sl false OL,b9 n] (.agg [.sl false x])) (ksp:Pure Tryz.prog G0 12 [.agg [.sl false x],.int .i64 how,.int .i64 by0] (.agg [.sl false y]))
  (ksq:Pure Tryz.prog G0 12 [.agg [.sl false y],.int .i64 (IntKind.i64.wrap (how.tdiv 5)),.int .i64 (IntKind.i64.wrap (by0.tdiv 7))] (.agg [.sl false z])) (hx:qA [.int .i64 ca,.int .i64 cb,.int .i64 cc,.sl false cd] OL x) (hy:qA [.int .i64 ca,.int .i64 cb,.int .i64 cc,.sl false cd] OL y) (hz:qA [.int .i64 ca,.int .i64 cb,.int .i64 cc,.sl false cd] OL z):
  Pure Tryz.prog G0 3 [b9 l,b9 m,b9 n,.int .i64 how,.int .i64 by0] (.bool true):=by
 have hl1:inR aC (b9 l)=true:=eW l
 have hm1:inR aC (b9 m)=true:=eW m
 have hn1:inR aC (b9 n)=true:=eW n
 generalize b9 l=el at klab hl1 ⊢
 generalize b9 m=em at klab hm1 ⊢
 generalize b9 n=en at kmut hn1 ⊢
 obtain ⟨L3,hL3⟩:∃ L3,L3=[[AV.sl false x],[.sl false y],[.sl false z]]:=⟨_,rfl⟩
 have hLl:L3.length=3:=by rw [hL3];rfl
 have hLt:inE aC L3=true:=by rw [hL3];simp only [inE,inL,inR,htx,hty,htz,Bool.and_self]
 have hLg:∀ i,i<3→∃ e,L3[i]? =some [.sl false e]∧qA [.int .i64 ca,.int .i64 cb,.int .i64 cc,.sl false cd] OL e:=fun i hi=>by
  rw [hL3]
  obtain rfl|rfl|rfl:i=0∨i=1∨i=2:=by omega
  ·exact ⟨x,rfl,hx⟩
  ·exact ⟨y,rfl,hy⟩
  ·exact ⟨z,rfl,hz⟩
 refine aQ hG0 Tryz.func3 rfl (by kernel_rfl) (by simp [Tryz.ntmps3]) (by simp only [inL,Bool.and_true,Bool.and_eq_true];exact ⟨hl1,hm1,hn1,rfl,rfl⟩) (by rfl) ?_
 simp only [Tryz.ntmps3,aH,Nat.reduceAdd]
 repeat' (first|(refine u'S ?_;simp only [wS,simprocAttr])|refine u'Q fun _ _=>?_|refine aO ?_|refine aP (fun hg=>?_) fun hg=>?_|refine u'G ?_|fail)
 refine aJ (α:={i:Nat // i≤3}) (fun i=>[(10,.bool false),(11,.ptr 0 0 0),(12,.sl false OL),(15,.sl true L3),(16,.int .i64 (i.1:Nat))]) (fun _=>[.cells 0 [.int .i64 ca,.int .i64 cb,.int .i64 cc,.sl false cd]]) (fun i=>3 - i.1) ⟨0,Nat.zero_le _⟩ (bN [] (kp [0]) hG0 (fun r hr=>absurd hr (Nat.not_lt_zero r)) ?_ ?_ ?_) ?_
 ·rw [hL3]
  simp only [wS,simprocAttr,cS,Frz,and_true,true_or]
 ·simp only [List.all_cons,List.all_nil,inR,aA hto,aA hLt,Bool.and_true,Bool.true_and]
  rfl
 ·simp only [wS,simprocAttr]
  simp only [ToH,and_true]
  exact ⟨kr rfl (aD (by simp only [inL,inR,htc,Bool.and_self])) (by simp),rfl,rfl⟩
 ·rintro ⟨i,hi⟩ K hK
  try simp only at hi
  by_cases hlt:i<3
  ·have c1:decide (((i:Nat):Int)<3)=true:=by simp;omega
   have c2:decide (((i:Nat):Int)<((3:Nat):Int))=true:=by simp;omega
   have e3:=aL (k:=i) hlt (by omega)
   obtain ⟨e,hle,da,db,dc,dd,k,htd,k1,k2,k3⟩:=hLg i hlt
   have hA:i<L3.length:=by omega
   have ek:(k==k)=true:=by simp
   have en:(k != k)=false:=by simp
   have em:(!(k==k))=false:=by simp
   repeat' (first|(refine u'S ?_;simp only [wS,simprocAttr,hle,hlt,hA,hLl,c1,c2,e3,en,em,bne_self_eq_false,ne_eq,not_true_eq_false,Bool.not_true,Bool.not_false])|refine u'Q fun _ _=>?_|refine aO ?_|refine aP (fun hg=>?_) fun hg=>?_|refine u'G ?_|fail)
   refine hK.go ⟨i+1,hlt⟩ (Weak.ref ⟨?_,.inr ⟨by first|exact Nat.zero_le _|exact Nat.le_refl _|simp,?_,fun g cs hg=>aD (hG0 g cs hg),?_,?_⟩⟩) (by simp only;omega)
   ·exact u'p
   ·exact u'p
   ·intro z hz
    simp only [List.mem_cons,List.not_mem_nil,or_false] at hz
    rcases hz with rfl|rfl|rfl|rfl|rfl<;>first|rfl|(simp only [inR];first|exact aA hto|exact aA hLt)
   ·simp only [List.all_cons,List.all_nil,Bool.and_true,Bool.and_eq_true];try exact aD (by simp only [inL,inR,htc,Bool.and_self])
  ·have c1:decide (((i:Nat):Int)<3)=false:=by simp;omega
   repeat' (first|(refine u'S ?_;simp only [wS,simprocAttr,c1])|refine u'Q fun _ _=>?_|refine aO ?_|refine aP (fun hg=>?_) fun hg=>?_|(refine bH hG0 (hlv) ?_;simp only [wS,simprocAttr]))
   refine aB rfl ?_
   simp only [wS,simprocAttr]
theorem rT (l m n:List Int) (how by0:Int) (hl:∀ x∈l,cI x) (hm:∀ x∈m,cI x) (hn:∀ x∈n,cI x) (hh:cI how) (hb:cI by0):Pure Tryz.prog G0 3 [b9 l,b9 m,b9 n,.int .i64 how,.int .i64 by0] (.bool true):=by
 obtain ⟨c,O,klab,hc,hO7,hOB,_⟩:=OP l m hl hm
 obtain ⟨M,kM,hM5,_,hMs⟩:=DD c hc O hOB (by omega) n hn
 have hMp:∀ s∈M,s.1.length≤16000000000:=fun s hs=>by
  obtain ⟨x,hx,rfl⟩:=hMs s hs
  have:=n7 c O x hx
  show x.1.length≤_
  omega
 obtain ⟨Y,kY,hY,hYp⟩:=xX M 16000000000 (by decide) (by omega) hMp how by0 hh hb
 obtain ⟨Z,kZ,hZ,hZp⟩:=xX Y (16000000000+3) (by decide) (by omega) hYp _ _ (iD (how.tdiv 5)) (iD (by0.tdiv 7))
 have tM:=sS c hc O hOB M (by omega) (fun s hs=>by have:=hMp s hs;omega)
 have tY:=sS c hc O hOB Y (by omega) (fun s hs=>by have:=hYp s hs;omega)
 have tZ:=sS c hc O hOB Z (by omega) (fun s hs=>by have:=hZp s hs;omega)
 have htc:=T.enc_tree c
 obtain ⟨ca,cb,cc,cd,hce⟩:=aI c
 rw [hce] at klab kM tM tY tZ htc
 simp only [mV] at kM kY kZ
 exact RW DK l m n how by0 ca cb cc cd (O.map opC) (mC M) (mC Y) (mC Z) (by simpa only [inL,inR,Bool.and_true,Bool.true_and] using htc) (eI O) (cK M) (cK Y) (cK Z) klab kM kY kZ tM tY tZ
end Go.Proofs.YtggflhbigolakaaGreatDoor
