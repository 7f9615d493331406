import Derived.Test.YtggflhbigolakaaGreatDoorSI
import Derived.Test.YtggflhbigolakaaGreatDoorSM
set_option linter.unusedVariables false
set_option linter.unusedSimpArgs false
namespace Go.Proofs.YtggflhbigolakaaGreatDoor
open Go.AM
attribute [local irreducible] AWp aY bC bI bU bW aN aS bL
set_option maxRecDepth 100000
def OY (o:OpT):Prop:=T.size o.2.1≤100000000000∧T.size o.2.2.1≤100000000000
set_option maxHeartbeats 8000000 in
theorem CT (t : T) (ht : T.size t ≤ 100000000000) (b : Bool) (ol : List OpT) (hops : ∀ o ∈ ol, OY o) (hol : ol.length ≤ 1000000000) : Pure Tryz.prog G0 36 [.agg (T.enc t), .sl b (ol.map opC)] (.sl false (SE (dJ t ol))) := by
 have htr:=T.enc_tree t
 have kps:=GS _ t (Nat.le_refl _) ht
 have hOl:(ol.map opC).length=ol.length:=List.length_map ..
 have hOt:=eI ol
 have hOg:∀ (j:Nat) (o:OpT),ol[j]? =some o→(ol.map opC)[j]? =some (opC o):=fun j o h=>by rw [List.getElem?_map,h];rfl
 obtain ⟨res,hres⟩:∃ r,r=dJ t ol:=⟨_,rfl⟩
 have hrt:inR aC (.sl false (SE res))=true:=by simp only [inR];exact qB _
 have hwk:AM.wk (.sl false (SE res))=.sl false (SE res):=by
  clear hres hrt
  simp only [AM.wk,AV.sl.injEq,true_and,dI]
  induction res with
  |nil=>rfl
  |cons x l ih=>
   have:=D3 [x.1]
   simp only [PE,List.map_cons,List.map_nil,wkL,List.cons.injEq,and_true] at this
   simp only [SE,List.map_cons,wkL,AM.wk,List.cons.injEq,and_true] at ih ⊢
   exact ⟨this,ih⟩
 rw [← hres]
 unfold dJ at hres
 have hpl:=T.paths_len t
 have hsub:=fun (p:List Int) (h:p∈T.paths t)=>T.paths_sub t p h
 have hpg:=fun (i:Nat) (p:List Int) (h:(T.paths t)[i]? =some p)=>AD h
 have hPl:=l5 (T.paths t)
 have hPt:=nC (T.paths t)
 generalize T.paths t=ps at kps hres hpl hsub hpg hPl hPt
 generalize hPS:PE ps=PS at kps hpg hPl hPt
 have kat:=fun (p:List Int) (hp:p.length≤1000000000000) (t':T) (h:T.sub t p=some t')=>T7 p false t t' hp h
 obtain ⟨ta,tb,tc,TE,hte⟩:=aI t
 rw [hte] at htr kps kat ⊢
 generalize ol.map opC=OL at hOl hOt hOg ⊢
 refine aU hG0 Tryz.func36 rfl (by kernel_rfl) (by simp [Tryz.ntmps36]) (by simp only [inL,inR,Bool.true_and,Bool.and_true,Bool.and_eq_true] at htr ⊢;exact ⟨htr,hOt⟩) (by exact hrt) ?_
 simp only [Tryz.ntmps36,aH,Nat.reduceAdd]
 have hTE:inE aC TE=true:=by simpa only [inL,inR,Bool.true_and,Bool.and_true] using htr
 by_cases h24:24<ol.length
 ·have c0:decide (((OL.length:Nat):Int) > 24)=true:=by simp;omega
  rw [if_pos h24] at hres
  subst hres
  repeat' (first|(refine u'S ?_;simp only [wS,simprocAttr,c0])|refine u'Q fun _ _=>?_|refine aO ?_|refine aP (fun hg=>?_) fun hg=>?_|fail)
  refine aB rfl ?_
  simp only [wS,simprocAttr]
  rfl
 ·have c0 : decide (((OL.length : Nat) : Int) > 24) = false := by simp; omega
  rw [if_neg h24] at hres
  repeat' (first|(refine u'S ?_;simp only [wS,simprocAttr,c0])|refine u'Q fun _ _=>?_|refine aO ?_|refine aP (fun hg=>?_) fun hg=>?_|refine u'G ?_|fail)
  refine aJ (α:={i:Nat // i≤ps.length}) (fun i=>[(1,.sl b OL),(2,.ptr 0 0 0),(5,rv 1 ((SE (dC t ol (ps.take i.1))).length - 1) 2 (SE (dC t ol (ps.take i.1)))),(6,.sl false PS),(7,.int .i64 (i.1:Nat))]) (fun i=>[.cells 0 [.int .i64 ta,.int .i64 tb,.int .i64 tc,.sl false TE],rvR ((SE (dC t ol (ps.take i.1))).length - 1) (SE (dC t ol (ps.take i.1)))]) (fun i=>ps.length - i.1) ⟨0,Nat.zero_le _⟩ (bN [] (kp [0,1]) hG0 (fun r hr=>absurd hr (Nat.not_lt_zero r)) ?_ ?_ ?_) ?_
  ·simp only [wS,simprocAttr,cS,Frz,and_true,true_or,List.take_zero,dC,SE,List.map_nil,dS,hPl,c0];try exact .toRsv
  ·simp only [List.all_cons,List.all_nil,Bool.and_true,Bool.and_eq_true,inR,aA hOt,aA hPt,true_and];exact ⟨rfl,cH rfl⟩
  ·simp only [wS,simprocAttr,List.take_zero,dC,SE,List.map_nil,dM]
   simp only [ToH,and_true]
   exact kr rfl (by simp only [aG,inL,inR,Bool.true_and,Bool.and_true];exact aA hTE) (by simp)
  ·rintro ⟨i,hi⟩ K hK
   try simp only at hi
   by_cases hlt:i<ps.length
   ·have c1:decide (((i:Nat):Int)<((PS.length:Nat):Int))=true:=by simp;omega
    obtain ⟨p,hp⟩:∃ p,ps[i]? =some p:=⟨_,List.getElem?_eq_getElem hlt⟩
    have gp:=hpg i p hp
    have hA:i<PS.length:=by omega
    have e3:=aL (k:=i) hlt (by omega)
    obtain ⟨hpn,t',hs,hts⟩:=hsub p (List.mem_of_getElem? hp)
    have ka:=kat p (by omega) t' hs
    have htk:=CQ (ol:=ol) hp hs
    have hal:=kC t ol (ps.take i)
    have hal2:(ps.take i).length*ol.length≤100000000000*24:=Nat.mul_le_mul (by rw [List.length_take];omega) (by omega)
    have kap:=fun (o:OpT) (ho:OY o)=>CY o.1 o.2.1 o.2.2.1 o.2.2.2 ho.1 ho.2 t' (by omega)
    obtain ⟨na,nb,nc,NE,hne⟩:=aI t'
    have hnt:=T.enc_tree t'
    rw [hne] at ka kap hnt
    have hipt:inE aC (aE p)=true:=aW p
    generalize hA0:dC t ol (ps.take i)=A0 at hal htk ⊢
    have hse:∀ (l:List (List Int × Nat)) (j:Nat),SE (l++[(p,j)])=SE l++[[.sl false (aE p),.int .i64 (j:Nat)]]:=fun l j=>QT _ _
    change Pure Tryz.prog G0 _ [_,.sl false (aE p)] _ at ka
    generalize aE p=ip at gp ka hipt hse
    repeat' (first|(refine u'S ?_;simp only [wS,simprocAttr,gp,hA,c1,e3])|refine u'Q fun _ _=>?_|refine aO ?_|refine aP (fun hg=>?_) fun hg=>?_|refine u'G ?_|fail)
    refine aJ (α:={j:Nat // j≤ol.length}) (fun j=>[(1,.sl b OL),(2,.ptr 0 0 0),(5,rv 1 ((SE (A0++fL t' p (ol.take j.1) 0)).length - 1) 2 (SE (A0++fL t' p (ol.take j.1) 0))),(6,.sl false PS),(7,.int .i64 (i:Nat)),(8,.ptr 2 0 0),(10,.int .i64 (j.1:Nat))]) (fun j=>[.cells 0 [.int .i64 ta,.int .i64 tb,.int .i64 tc,.sl false TE],rvR ((SE (A0++fL t' p (ol.take j.1) 0)).length - 1) (SE (A0++fL t' p (ol.take j.1) 0)),.cells 0 [.int .i64 na,.int .i64 nb,.int .i64 nc,.sl false NE]]) (fun j=>ol.length - j.1) ⟨0,Nat.zero_le _⟩ (Weak.ref ⟨?_,.inl ?_⟩) ?_
    ·simp only [wS,simprocAttr,List.take_zero,fL,List.append_nil,c0];try exact rfl
    ·simp only [wS,simprocAttr,List.take_zero,fL,List.append_nil];try exact rfl
    ·rintro ⟨j,hj⟩ K2 hK2
     try simp only at hj
     have hhl:=uY t' p (ol.take j) 0
     rw [List.length_take] at hhl
     have hAl:(SE (A0++fL t' p (ol.take j) 0)).length≤100000000000*24+24:=by rw [M4,List.length_append];omega
     have hAs:=OX (A0++fL t' p (ol.take j) 0)
     by_cases hltj:j<ol.length
     ·have d1:decide (((j:Nat):Int)<((OL.length:Nat):Int))=true:=by simp;omega
      have hB:j<OL.length:=by omega
      have f3:=aL (k:=j) hltj (by omega)
      obtain ⟨o,ho⟩:∃ o,ol[j]? =some o:=⟨_,List.getElem?_eq_getElem hltj⟩
      have gh:=hOg j o ho
      have ko:=kap o (hops o (List.mem_of_getElem? ho))
      have hnx:=IF (t:=t') (p:=p) ho
      obtain ⟨nm,f,pu,bk⟩:=o
      obtain ⟨fa,fb,fc,FE,hfe⟩:=aI f
      obtain ⟨pa,pb,pc,PE',hpe⟩:=aI pu
      simp only [opC,opE,hfe,hpe,List.cons_append,List.nil_append,qV] at gh ko hnx
      generalize T.app nm f pu bk t'=r at ko hnx
      have hAt:=qB (A0++fL t' p (ol.take (j+1)) 0)
      rw [hnx] at hAt
      cases r with
      |none=>
       simp only [DU,List.append_nil] at hnx hAt
       simp only [fJ] at ko
       repeat' (first|(refine u'S ?_;simp only [wS,simprocAttr,gp,hA,gh,hB,d1,f3,↓aM,↓aF])|refine u'Q fun _ _=>?_|refine aO ?_|refine aP (fun hg=>?_) fun hg=>?_|refine u'G ?_|fail)
       refine hK2.go ⟨j+1,hltj⟩ (Weak.ref ⟨?_,.inr ⟨by first|exact Nat.zero_le _|exact Nat.le_refl _|simp,?_,fun g cs hg=>aD (hG0 g cs hg),?_,?_⟩⟩) (by simp only;omega)
       ·simp only [wS,simprocAttr,hnx];try exact rfl
       ·simp only [wS,simprocAttr,hnx];try exact rfl
       ·intro z hz
        simp only [List.mem_cons,List.not_mem_nil,or_false] at hz
        rcases hz with rfl|rfl|rfl|rfl|rfl|rfl|rfl<;>first|rfl|(simp only [inR];first|exact aA hOt|exact aA hPt|exact aA hipt|exact cH rfl)
       ·simp only [List.all_cons,List.all_nil,Bool.and_true,Bool.and_eq_true];try exact ⟨by simp only [aG,inL,inR,Bool.true_and,Bool.and_true];exact aA hTE,bQ (aA (by rw [hnx];exact hAt)),by simp only [aG,inL,inR,Bool.true_and,Bool.and_true];exact aA (by simpa only [inL,inR,Bool.true_and,Bool.and_true] using hnt)⟩
      |some x=>
       simp only [DU] at hnx hAt
       rw [← List.append_assoc] at hAt
       rw [hse] at hAt
       obtain ⟨xa,xb,xc,XE,hxe⟩:=aI x
       simp only [fJ,hxe] at ko
       have hnx2:SE (A0++(fL t' p (ol.take j) 0++[(p,j)]))=SE (A0++fL t' p (ol.take j) 0)++[[.sl false ip,.int .i64 (j:Nat)]]:=by rw [← List.append_assoc,hse]
       generalize hAP:SE (A0++fL t' p (ol.take j) 0)=AP at hAl hAs hAt hnx2 ⊢
       repeat' (first|(refine u'S ?_;simp only [wS,simprocAttr,gp,hA,gh,hB,d1,f3,↓aM,↓aF])|refine u'Q fun _ _=>?_|refine aO ?_|refine aP (fun hg=>?_) fun hg=>?_|refine u'G ?_|refine b8 (v':=(AP++[[AV.sl false ip,AV.int .i64 (j:Nat)]]).length - 1) (es:=[[.sl false ip,.int .i64 (j:Nat)]]) (by':=32) (by kernel_rfl) u'p vv hAs (by simp [cJ]) (by simp) (by simp only [List.length_singleton];omega) (u'T ?_))
       refine hK2.go ⟨j+1,hltj⟩ (Weak.ref ⟨?_,.inr ⟨by first|exact Nat.zero_le _|exact Nat.le_refl _|simp,?_,fun g cs hg=>aD (hG0 g cs hg),?_,?_⟩⟩) (by simp only;omega)
       ·simp only [wS,simprocAttr,hnx,hnx2];try exact rfl
       ·simp only [wS,simprocAttr,hnx,hnx2];try exact rfl
       ·intro z hz
        simp only [List.mem_cons,List.not_mem_nil,or_false] at hz
        rcases hz with rfl|rfl|rfl|rfl|rfl|rfl|rfl<;>first|rfl|(simp only [inR];first|exact aA hOt|exact aA hPt|exact aA hipt|exact cH rfl)
       ·simp only [List.all_cons,List.all_nil,Bool.and_true,Bool.and_eq_true];try exact ⟨by simp only [aG,inL,inR,Bool.true_and,Bool.and_true];exact aA hTE,bQ (aA (by rw [hnx,hnx2];exact hAt)),by simp only [aG,inL,inR,Bool.true_and,Bool.and_true];exact aA (by simpa only [inL,inR,Bool.true_and,Bool.and_true] using hnt)⟩
     ·have d1:decide (((j:Nat):Int)<((OL.length:Nat):Int))=false:=by simp;omega
      obtain rfl:j=ol.length:=by omega
      rw [List.take_length,← htk] at hAl ⊢
      repeat' (first|(refine u'S ?_;simp only [wS,simprocAttr,d1,e3,c1])|refine u'Q fun _ _=>?_|refine aO ?_|refine aP (fun hg=>?_) fun hg=>?_|fail)
      refine hK.go ⟨i+1,hlt⟩ (Weak.ref ⟨?_,.inr ⟨by first|exact Nat.zero_le _|exact Nat.le_refl _|simp,?_,fun g cs hg=>aD (hG0 g cs hg),?_,?_⟩⟩) (by simp only;omega)
      ·exact u'p
      ·exact u'p
      ·intro z hz
       simp only [List.mem_cons,List.not_mem_nil,or_false] at hz
       rcases hz with rfl|rfl|rfl|rfl|rfl<;>first|rfl|(simp only [inR];first|exact aA hOt|exact aA hPt|exact aA hipt|exact cH rfl)
      ·simp only [List.all_cons,List.all_nil,Bool.and_true,Bool.and_eq_true];try exact ⟨by simp only [aG,inL,inR,Bool.true_and,Bool.and_true];exact aA hTE,bQ (aA (qB _))⟩
   ·have c1:decide (((i:Nat):Int)<((PS.length:Nat):Int))=false:=by simp;omega
    obtain rfl:i=ps.length:=by omega
    rw [List.take_length,← hres]
    have hrs:=OX res
    have hrl:=qB res
    repeat' (first|(refine u'S ?_;simp only [wS,simprocAttr,c1])|refine u'Q fun _ _=>?_|refine lM ?_|refine aR (fun hg=>?_) fun hg=>?_|fail)
    refine Cont.go (by assumption) ?_
    repeat' (first|(refine u'S ?_;simp only [wS,simprocAttr,c1])|refine u'Q fun _ _=>?_|refine lM ?_|refine aR (fun hg=>?_) fun hg=>?_|fail)
    refine Cont.go (by assumption) (eH (bN [1] (kp [0]) (l:=[(5,.sl false (SE res))]) (h:=[.cells 0 [.int .i64 ta,.int .i64 tb,.int .i64 tc,.sl false TE]]) hG0 (fun r hr=>absurd hr (Nat.not_lt_zero r)) ?_ ?_ ?_) ?_)
    ·simp only [wS,simprocAttr,cS,Frz,and_true,true_or];exact .inr (fB (v:=(SE res).length - 1) rfl (by simp) hrs hrl)
    ·simp only [List.all_cons,List.all_nil,Bool.and_true,inR];exact aA hrl
    ·simp only [wS,simprocAttr]
     simp only [ToH,and_true]
     exact ⟨kr rfl (by simp only [aG,inL,inR,Bool.true_and,Bool.and_true];exact aA hTE) (by simp),rfl⟩
    repeat' (first|(refine u'S ?_;simp only [wS,simprocAttr])|refine u'Q fun _ _=>?_|refine aV ?_|refine aR (fun hg=>?_) fun hg=>?_|fail)
    refine aB rfl ?_
    simp only [wS,simprocAttr,hwk]
def fE:List Int→List Int→Int
 | [],[]=>0
 | [],_::_=> -1
 |_::_,[]=>1
 |x::a,y::b=>if cW x y≠0 then cW x y else fE a b
def gV (a b:List Int × Int):Int:=if fE a.1 b.1≠0 then fE a.1 b.1 else cW a.2 b.2
theorem qR (x:Int):cW x x=0:=cU.2 rfl
theorem x9 {a b:List Int} {i:Nat} {x y:Int} (ha:a[i]? =some x) (hb:b[i]? =some y):fE (a.drop i) (b.drop i)=if cW x y≠0 then cW x y else fE (a.drop (i+1)) (b.drop (i+1)):=by
 obtain ⟨h1,h2⟩:=List.getElem?_eq_some_iff.1 ha
 obtain ⟨h3,h4⟩:=List.getElem?_eq_some_iff.1 hb
 rw [List.drop_eq_getElem_cons h1,List.drop_eq_getElem_cons h3,h2,h4,fE]
theorem uK {a b:List Int} {i:Nat} (h:fE a b=fE (a.drop i) (b.drop i)) (h1:i≤a.length) (h2:i≤b.length) (h3:i=a.length∨i=b.length):fE a b=cW (a.length:Int) (b.length:Int):=by
 rw [h]
 rcases h3 with rfl|rfl
 ·rw [List.drop_length]
  cases hb:b.drop a.length with
  |nil=>have:=List.drop_eq_nil_iff.1 hb;rw [fE,cW,if_neg (by omega),if_neg (by omega)]
  |cons y ys=>
   have:=congrArg List.length hb
   simp only [List.length_drop,List.length_cons] at this
   rw [fE,cW,if_pos (by omega)]
 ·rw [List.drop_length]
  cases hb:a.drop b.length with
  |nil=>have:=List.drop_eq_nil_iff.1 hb;rw [fE,cW,if_neg (by omega),if_neg (by omega)]
  |cons y ys=>
   have:=congrArg List.length hb
   simp only [List.length_drop,List.length_cons] at this
   rw [fE,cW,if_neg (by omega),if_pos (by omega)]
theorem RU (a b:List Int) (ha:a.length≤1000000000000000):Pure Tryz.prog G0 85 [.sl false (aE a),.sl false (aE b)] (.int .i64 (fE a b)):=by
 have h1t:inE aC (aE a)=true:=aW a
 have h2t:inE aC (aE b)=true:=aW b
 have hga:∀ (i:Nat) (x:Int),a[i]? =some x→(aE a)[i]? =some [.int .i64 x]:=fun i x h=>by simp [aE,h]
 have hgb:∀ (i:Nat) (x:Int),b[i]? =some x→(aE b)[i]? =some [.int .i64 x]:=fun i x h=>by simp [aE,h]
 have hna:(aE a).length=a.length:=by simp [aE]
 have hnb:(aE b).length=b.length:=by simp [aE]
 generalize aE a=A at h1t hga hna ⊢
 generalize aE b=B at h2t hgb hnb ⊢
 refine aQ hG0 Tryz.func85 rfl (by kernel_rfl) (by simp [Tryz.ntmps85]) (by simp only [inL,inR,h1t,h2t,Bool.and_self]) (by simp [inR]) ?_
 simp only [Tryz.ntmps85,aH,Nat.reduceAdd]
 repeat' (first|(refine u'S ?_;simp only [wS,simprocAttr])|refine u'Q fun _ _=>?_|refine aV ?_|refine aR (fun hg=>?_) fun hg=>?_|fail)
 refine aJ (α:={i:Nat // i≤a.length∧i≤b.length∧fE a b=fE (a.drop i) (b.drop i)}) (fun i=>[(0,.sl false A),(1,.sl false B),(9,.sl false A),(10,.int .i64 (A.length:Nat)),(11,.int .i64 (i.1:Nat))]) (fun i=>[]) (fun i=>a.length - i.1) ⟨0,Nat.zero_le _,Nat.zero_le _,rfl⟩ (Weak.ref ⟨?_,.inl ?_⟩) ?_
 ·exact u'p
 ·exact u'p
 ·rintro ⟨i,hi1,hi2,hi3⟩ K hK
  try simp only at hi1 hi2 hi3
  by_cases hlt:i<a.length
  ·have c1:decide (((i:Nat):Int)<((A.length:Nat):Int))=true:=by simp;omega
   obtain ⟨x,hx⟩:∃ x,a[i]? =some x:=⟨_,List.getElem?_eq_getElem hlt⟩
   have gx:=hga i x hx
   have e3:=aL (k:=i) hlt (by omega)
   have hA:i<A.length:=by omega
   by_cases hlb:i<b.length
   ·have c2:decide (((i:Nat):Int) ≥ ((B.length:Nat):Int))=false:=by simp;omega
    obtain ⟨y,hy⟩:∃ y,b[i]? =some y:=⟨_,List.getElem?_eq_getElem hlb⟩
    have gy:=hgb i y hy
    have hB:i<B.length:=by omega
    have hd:=x9 hx hy
    have kc:=EB x y
    generalize cW x y=cv at hd kc
    repeat' (first|(refine u'S ?_;simp only [wS,simprocAttr,gx,gy,hA,hB,c1,c2,e3])|refine u'Q fun _ _=>?_|refine aO ?_|refine aP (fun hg=>?_) fun hg=>?_|refine u'G ?_|fail)
    ·refine aB rfl ?_
     simp only [wS,simprocAttr]
     rw [hi3,hd,if_pos (by simp_all)]
    ·refine hK.go ⟨i+1,hlt,hlb,by rw [hi3,hd,if_neg (by simp_all)]⟩ (Weak.ref ⟨?_,.inr ⟨by first|exact Nat.zero_le _|exact Nat.le_refl _|simp,?_,fun g cs hg=>aD (hG0 g cs hg),?_,?_⟩⟩) (by simp only;omega)
     ·exact u'p
     ·exact u'p
     ·intro z hz
      simp only [List.mem_cons,List.not_mem_nil,or_false] at hz
      rcases hz with rfl|rfl|rfl|rfl|rfl<;>first|rfl|(simp only [inR];first|exact aA h1t|exact aA h2t)
     ·simp only [List.all_cons,List.all_nil,Bool.and_true,Bool.and_eq_true];try exact rfl
   ·have c2:decide (((i:Nat):Int) ≥ ((B.length:Nat):Int))=true:=by simp;omega
    have he:=uK hi3 hi1 hi2 (.inr (by omega))
    repeat' (first|(refine u'S ?_;simp only [wS,simprocAttr,gx,hA,c1,c2])|refine u'Q fun _ _=>?_|refine aO ?_|refine aP (fun hg=>?_) fun hg=>?_|fail)
    refine aB rfl ?_
    simp only [wS,simprocAttr]
    rw [he,cW,if_neg (by omega),if_pos (by omega)]
  ·have c1:decide (((i:Nat):Int)<((A.length:Nat):Int))=false:=by simp;omega
   have he:=uK hi3 hi1 hi2 (.inl (by omega))
   repeat' (first|(refine u'S ?_;simp only [wS,simprocAttr,c1])|refine u'Q fun _ _=>?_|refine aO ?_|refine aP (fun hg=>?_) fun hg=>?_|fail)
   ·refine aB rfl ?_
    simp only [wS,simprocAttr]
    rw [he,cW,if_pos (by simp_all)]
   ·refine aB rfl ?_
    simp only [wS,simprocAttr]
    rw [he,cW,if_neg (by simp_all),if_neg (by simp_all<;>omega)]
theorem P9 (a b:List Int × Int) (ha:a.1.length≤1000000000000000):Pure Tryz.prog G0 50 [.agg [.sl false (aE a.1),.int .i64 a.2],.agg [.sl false (aE b.1),.int .i64 b.2]] (.int .i64 (gV a b)):=by
 have kl:=RU a.1 b.1 ha
 have kc:=EB a.2 b.2
 obtain ⟨p,x⟩:=a
 obtain ⟨q,y⟩:=b
 have h1t:inE aC (aE p)=true:=aW p
 have h2t:inE aC (aE q)=true:=aW q
 have ko:Pure Tryz.prog G0 47 [.sl true [[.int .i64 (fE p q)],[.int .i64 (cW x y)]]] _:=RO true [fE p q,cW x y] (by simp)
 have hv:gV (p,x) (q,y)=fZ [fE p q,cW x y]:=by
  simp only [gV,fZ]
  split
  ·rfl
  ·split
   ·rfl
   ·rename_i h;exact Decidable.not_not.1 h
 rw [hv]
 simp only at kl kc
 generalize aE p=ip at kl h1t ⊢
 generalize aE q=iq at kl h2t ⊢
 refine aQ hG0 Tryz.func50 rfl (by kernel_rfl) (by simp [Tryz.ntmps50]) (by simp only [inL,inR,h1t,h2t,Bool.and_self]) (by simp [inR]) ?_
 simp only [Tryz.ntmps50,aH,Nat.reduceAdd]
 repeat' (first|(refine u'S ?_;simp only [wS,simprocAttr])|refine u'Q fun _ _=>?_|refine aO ?_|refine aP (fun hg=>?_) fun hg=>?_|refine u'G ?_|fail)
 refine aB rfl ?_
 simp only [wS,simprocAttr]
set_option maxHeartbeats 8000000 in
theorem GP (a b:List Int × Int) (ha:a.1.length≤1000000000000000):Pure Tryz.prog G0 51 [.agg [.sl false (aE a.1),.int .i64 a.2],.agg [.sl false (aE b.1),.int .i64 b.2]] (.int .i64 (gV a b)):=by
 obtain ⟨a,u⟩:=a
 obtain ⟨b,v⟩:=b
 simp only at ha ⊢
 have h1t:inE aC (aE a)=true:=aW a
 have h2t:inE aC (aE b)=true:=aW b
 have hga:∀ (i:Nat) (x:Int),a[i]? =some x→(aE a)[i]? =some [.int .i64 x]:=fun i x h=>by simp [aE,h]
 have hgb:∀ (i:Nat) (x:Int),b[i]? =some x→(aE b)[i]? =some [.int .i64 x]:=fun i x h=>by simp [aE,h]
 have hna:(aE a).length=a.length:=by simp [aE]
 have hnb:(aE b).length=b.length:=by simp [aE]
 generalize aE a=A at h1t hga hna ⊢
 generalize aE b=B at h2t hgb hnb ⊢
 obtain ⟨V,hV⟩:∃ x,x=gV (a,u) (b,v):=⟨_,rfl⟩
 rw [← hV]
 simp only [gV] at hV
 refine aQ hG0 Tryz.func51 rfl (by kernel_rfl) (by simp [Tryz.ntmps51]) (by simp only [inL,inR,h1t,h2t,Bool.and_self]) (by simp [inR]) ?_
 simp only [Tryz.ntmps51,aH,Nat.reduceAdd]
 repeat' (first|(refine u'S ?_;simp only [wS,simprocAttr])|refine u'Q fun _ _=>?_|refine aV ?_|refine aR (fun hg=>?_) fun hg=>?_|fail)
 refine aJ (α:={i:Nat // i≤a.length∧i≤b.length∧fE a b=fE (a.drop i) (b.drop i)}) (fun i=>[(2,.ptr 0 0 0),(3,.ptr 1 0 0),(5,.int .i64 (i.1:Nat))]) (fun i=>[.cells 0 [.sl false A,.int .i64 u],.cells 0 [.sl false B,.int .i64 v]]) (fun i=>a.length - i.1) ⟨0,Nat.zero_le _,Nat.zero_le _,rfl⟩ (Weak.ref ⟨?_,.inl ?_⟩) ?_
 ·exact u'p
 ·exact u'p
 ·rintro ⟨i,hi1,hi2,hi3⟩ K hK
  try simp only at hi1 hi2 hi3
  have end':(i=a.length∨i=b.length)→V=if ((A.length:Nat):Int)=((B.length:Nat):Int) then cW u v else cW ((A.length:Nat):Int) ((B.length:Nat):Int):=fun h=>by
   rw [hV,uK hi3 hi1 hi2 h,hna,hnb]
   by_cases he:((a.length:Nat):Int)=((b.length:Nat):Int)
   ·rw [if_pos he,if_neg (by rw [he,qR];simp)]
   ·rw [if_neg he,if_pos (fun h=>he (cU.1 h))]
  by_cases hlt:i<a.length
  ·have c1:decide (((i:Nat):Int)<((A.length:Nat):Int))=true:=by simp;omega
   obtain ⟨x,hx⟩:∃ x,a[i]? =some x:=⟨_,List.getElem?_eq_getElem hlt⟩
   have gx:=hga i x hx
   have e3:=aL (k:=i) hlt (by omega)
   have hA:i<A.length:=by omega
   by_cases hlb:i<b.length
   ·have c2:decide (((i:Nat):Int)<((B.length:Nat):Int))=true:=by simp;omega
    obtain ⟨y,hy⟩:∃ y,b[i]? =some y:=⟨_,List.getElem?_eq_getElem hlb⟩
    have gy:=hgb i y hy
    have hB:i<B.length:=by omega
    have hd:=x9 hx hy
    clear end'
    repeat' (first|(refine u'S ?_;simp only [wS,simprocAttr,gx,gy,hA,hB,c1,c2,e3])|refine u'Q fun _ _=>?_|refine aO ?_|refine aP (fun hg=>?_) fun hg=>?_|fail)
    ·have hc:cW x y= -1:=by rw [cW,if_pos (by simp_all)]
     refine aB rfl ?_
     simp only [wS,simprocAttr]
     rw [hV,hi3,hd,hc];rfl
    ·have hc:cW x y=1:=by rw [cW,if_neg (by simp_all<;>omega),if_pos (by simp_all)]
     refine aB rfl ?_
     simp only [wS,simprocAttr]
     rw [hV,hi3,hd,hc];rfl
    ·have hc:cW x y=0:=by rw [cW,if_neg (by simp_all<;>omega),if_neg (by simp_all<;>omega)]
     refine hK.go ⟨i+1,hlt,hlb,by rw [hi3,hd,if_neg (by simp [hc])]⟩ (Weak.ref ⟨?_,.inr ⟨by first|exact Nat.zero_le _|exact Nat.le_refl _|simp,?_,fun g cs hg=>aD (hG0 g cs hg),?_,?_⟩⟩) (by simp only;omega)
     ·exact u'p
     ·exact u'p
     ·intro z hz
      simp only [List.mem_cons,List.not_mem_nil,or_false] at hz
      rcases hz with rfl|rfl|rfl<;>first|rfl|rfl
     ·simp only [List.all_cons,List.all_nil,Bool.and_true,Bool.and_eq_true];try exact ⟨by simp only [aG,inL,inR,Bool.true_and,Bool.and_true];exact aA h1t,by simp only [aG,inL,inR,Bool.true_and,Bool.and_true];exact aA h2t⟩
   ·have c2:decide (((i:Nat):Int)<((B.length:Nat):Int))=false:=by simp;omega
    have hv:=end' (.inr (by omega))
    clear end'
    repeat' (first|(refine u'S ?_;simp only [wS,simprocAttr,c1,c2])|refine u'Q fun _ _=>?_|refine aO ?_|refine aP (fun hg=>?_) fun hg=>?_|fail)
    all_goals (refine aB rfl ?_;simp only [wS,simprocAttr];refine congrArg (AV.int .i64) ?_;rw [hv];simp_all [cW]<;>omega)
  ·have c1:decide (((i:Nat):Int)<((A.length:Nat):Int))=false:=by simp;omega
   have c2:True:=trivial
   have hv:=end' (.inl (by omega))
   clear end'
   repeat' (first|(refine u'S ?_;simp only [wS,simprocAttr,c1,c2])|refine u'Q fun _ _=>?_|refine aO ?_|refine aP (fun hg=>?_) fun hg=>?_|fail)
   all_goals (refine aB rfl ?_;simp only [wS,simprocAttr];refine congrArg (AV.int .i64) ?_;rw [hv];simp_all [cW]<;>omega)
theorem AN {x y:Int} (h:x<y) (p q:List Int):fE (x::p) (y::q)= -1:=by rw [fE,cW,if_pos h,if_pos (by decide)]
theorem uL (x:Int) (p q:List Int):fE (x::p) (x::q)=fE p q:=by rw [fE,qR,if_neg (by simp)]
namespace T
theorem mA:∀ (es:List T) (i:Nat) (p:List Int),p∈pathss es i→∃ (j:Int) (q:List Int),p=j::q∧(i:Int)≤j
 | [],_,_,h=>by cases h
 |e::es,i,p,h=>by
  rw [pathss] at h
  rcases List.mem_append.1 h with h|h
  ·obtain ⟨q,_,rfl⟩:=List.mem_map.1 h
   exact ⟨_,q,rfl,Int.le_refl _⟩
  ·obtain ⟨j,q,rfl,hj⟩:=mA es (i+1) p h
   exact ⟨j,q,rfl,by omega⟩
mutual
theorem AE:∀ t:T,(paths t).Pairwise fun p q=>fE p q= -1
 |mk k n m es=>by
  rw [paths,List.pairwise_cons]
  refine ⟨fun q hq=>?_,nS es 0⟩
  obtain ⟨j,r,rfl,_⟩:=mA es 0 q hq
  rfl
theorem nS:∀ (es:List T) (i:Nat),(pathss es i).Pairwise fun p q=>fE p q= -1
 | [],_=>List.Pairwise.nil
 |e::es,i=>by
  rw [pathss,List.pairwise_append]
  refine ⟨?_,nS es (i+1),fun p hp q hq=>?_⟩
  ·rw [List.pairwise_map]
   exact (AE e).imp fun h=>by rw [uL];exact h
  ·obtain ⟨r,_,rfl⟩:=List.mem_map.1 hp
   obtain ⟨j,s,rfl,hj⟩:=mA es (i+1) q hq
   exact AN (by omega) _ _
end
end T
theorem DR (t:T) (p:List Int):∀ (ol:List OpT) (k:Nat),∀ x∈fL t p ol k,x.1=p∧k≤x.2
 | [],_,x,h=>by cases h
 |o::ol,k,x,h=>by
  rw [fL] at h
  rcases List.mem_append.1 h with h|h
  ·have:x=(p,k):=by cases ha:qV o t<;>rw [ha] at h<;>simp [DU] at h;exact h
   rw [this];exact ⟨rfl,Nat.le_refl _⟩
  ·obtain ⟨h1,h2⟩:=DR t p ol (k+1) x h
   exact ⟨h1,by omega⟩
theorem tG (t:T) (ol:List OpT):∀ (ps:List (List Int)),∀ x∈dC t ol ps,x.1∈ps
 | [],x,h=>by cases h
 |p::ps,x,h=>by
  rw [dC] at h
  rcases List.mem_append.1 h with h|h
  ·cases hs:T.sub t p with
   |none=>rw [hs] at h;cases h
   |some t'=>
    rw [hs] at h
    rw [(DR t' p ol 0 x h).1];exact List.mem_cons_self ..
  ·exact List.mem_cons_of_mem _ (tG t ol ps x h)
theorem n7 (t:T) (ol:List OpT):∀ x∈dJ t ol,x.1.length<T.size t:=fun x hx=>by
 unfold dJ at hx
 split at hx
 ·cases hx
 ·exact (T.paths_sub t x.1 (tG t ol _ x hx)).1
theorem FF (t:T) (ol:List OpT):(dJ t ol).length≤T.size t*24:=by
 unfold dJ
 split
 ·simp
 ·have:=kC t ol (T.paths t)
  rw [T.paths_len] at this
  exact Nat.le_trans this (Nat.mul_le_mul (Nat.le_refl _) (by omega))
end Go.Proofs.YtggflhbigolakaaGreatDoor
