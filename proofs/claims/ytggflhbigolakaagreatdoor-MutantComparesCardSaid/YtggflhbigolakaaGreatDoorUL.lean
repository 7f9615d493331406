import Derived.Test.YtggflhbigolakaaGreatDoorUJ
set_option linter.unusedVariables false
set_option linter.unusedSimpArgs false
namespace Go.Proofs.YtggflhbigolakaaGreatDoor
open Go.AM
attribute [local irreducible] AWp aY bC bI bU bW aN aS bL
set_option maxRecDepth 100000
set_option maxHeartbeats 8000000 in
theorem MY (c : T) (hc : T.size c ≤ 1000000000000) (O : List OpT) (hO : ∀ o ∈ O, OpB o) (M : List Si) (hM : M.length ≤ 1000000000000000) (hp : ∀ s ∈ M, s.1.length ≤ 2000000000000) : Pure Tryz.prog G0 14 [.agg (T.enc c), .sl false (O.map opC), mV M] (jS c O M) := by
 have hst:=fun (i:Nat) (s:Si) (h:M[i]? =some s)=>AA s.1 c (hp s (List.mem_of_getElem? h))
 have hOl:(O.map opC).length=O.length:=List.length_map _
 have hOg:∀ (j:Nat) (o:OpT),O[j]? =some o→(O.map opC)[j]? =some (opC o):=fun j o h=>by rw [List.getElem?_map,h];rfl
 have ka:=CZ M hM fun s hs=>by have:=hp s hs;omega
 simp only [mV] at ka ⊢
 have ht:=cK M
 have hn:=gQ M
 have hg:=fun (i:Nat) (s:Si)=>jG (M:=M) (i:=i) (s:=s)
 have hOt:=eI O
 have htr:=T.enc_tree c
 obtain ⟨res,hres⟩:∃ r,r=fX c O c M:=⟨_,rfl⟩
 have hrt:=xM (fX c O c M)
 have hrV:inR aC (jS c O M)=true:=by
  rw [jS];split
  ·exact hrt
  ·rfl
 rw [jS,← hres] at hrV ⊢
 generalize mC M=MC at ht hn hg ka ⊢
 generalize O.map opC=OL at hOt hOl hOg ⊢
 obtain ⟨ca,cb,cc,cd,hce⟩:=aI c
 rw [hce] at htr ⊢
 refine aU hG0 Tryz.func14 rfl (by kernel_rfl) (by simp [Tryz.ntmps14]) (by simp only [inL,inR,hOt,ht,Bool.true_and,Bool.and_true] at htr ⊢;exact htr) (by exact hrV) ?_
 simp only [Tryz.ntmps14,aH,Nat.reduceAdd]
 cases hA:dE M with
 |false=>
  rw [hA] at ka
  simp only [hA,Bool.false_eq_true,if_false]
  repeat' (first|(refine u'S ?_;simp only [wS,simprocAttr,Bool.not_true,Bool.not_false])|refine u'Q fun _ _=>?_|refine aO ?_|refine aP (fun hg=>?_) fun hg=>?_|refine u'G ?_|fail)
  refine aX (v:=.agg [.int .i64 0,.int .i64 0,.int .i64 0,.sl true []]) rfl ?_ ?_
  ·simp only [wS,simprocAttr]
  ·simp only [wS,simprocAttr]
   rfl
 | true =>
  rw [hA] at ka
  simp only [hA,if_true]
  have hM3:M.length≤3:=by
   simp only [dE,Bool.and_eq_true,decide_eq_true_eq] at hA
   exact hA.2
  have hlt':=@oN M hA
  repeat' (first|(refine u'S ?_;simp only [wS,simprocAttr,Bool.not_true,Bool.not_false])|refine u'Q fun _ _=>?_|refine aO ?_|refine aP (fun hg=>?_) fun hg=>?_|refine u'G ?_|fail)
  refine aJ (α:={y:Nat × T // y.1≤M.length∧fX c O y.2 (M.drop y.1)=res∧T.wd y.2∧∀ (j:Nat) (s:Si),y.1≤j→M[j]? =some s→T.sub y.2 s.1=T.sub c s.1}) (fun y=>[(1,.sl false OL),(3,.ptr 0 0 0),(5,.ptr 1 0 0),(6,.ptr 2 0 0),(8,.ptr 3 0 0),(9,.int .i64 (y.1.1:Nat))]) (fun y=>[.cells 0 [.int .i64 ca,.int .i64 cb,.int .i64 cc,.sl false cd],.cells 0 [.sl false MC],.cells 0 [.int .i64 0,.int .i64 0,.int .i64 0,.sl true []],.cells 0 (T.enc y.1.2)]) (fun y=>M.length - y.1.1) ⟨(0,c),Nat.zero_le _,hres.symm,T.wd_of (by show T.size c≤_;omega),fun j s _ _=>rfl⟩ (Weak.ref ⟨?_,.inl ?_⟩) ?_
  ·exact u'p
  ·simp only [wS,simprocAttr,hce];try exact rfl
  ·rintro ⟨⟨i,y⟩,hi,hmk,hsz,hsub⟩ K hK
   simp only at hi hmk hsz hsub
   have hyt:=T.enc_tree y
   by_cases hlt:i<M.length
   ·have c1 : decide (((i : Nat) : Int) < ((MC.length : Nat) : Int)) = true := by simp; omega
    have e3:=aL (k:=i) hlt (by omega)
    obtain ⟨s,hs⟩:∃ s,M[i]? =some s:=⟨_,List.getElem?_eq_getElem hlt⟩
    have gs:=hg i s hs
    have hA':i<MC.length:=by omega
    have hd:M.drop i=s::M.drop (i+1):=by
     obtain ⟨q1,q2⟩:=List.getElem?_eq_some_iff.1 hs
     rw [List.drop_eq_getElem_cons q1,q2]
    rw [hd,fX] at hmk
    have kst:=hst i s hs
    rw [hce] at kst
    obtain ⟨ya,yb,yc,yd,hye⟩:=aI y
    have d1:True:=trivial
    have d2:True:=trivial
    have d3:True:=trivial
    cases hn':T.sub c s.1 with
    |none=>
     rw [eU,hn'] at hmk
     rw [hn'] at kst
     simp only at hmk
     simp only [fJ] at kst
     generalize aE s.1=is at gs kst
     subst hmk
     simp only [hye]
     repeat' (first|(refine u'S ?_;simp only [wS,simprocAttr,gs,hA',c1,e3,d1,d2,d3,Bool.not_true,Bool.not_false])|refine u'Q fun _ _=>?_|refine aO ?_|refine aP (fun hg=>?_) fun hg=>?_|refine u'G ?_|fail)
     refine aX (v:=.agg [.int .i64 0,.int .i64 0,.int .i64 0,.sl true []]) rfl ?_ ?_
     ·simp only [wS,simprocAttr]
     ·simp only [wS,simprocAttr]
      rfl
    |some n=>
     have hnz:=Nat.le_trans (T.sub_size hn') hc
     rw [hn'] at kst
     simp only [fJ] at kst
     obtain ⟨na,nb,nc,nd,hne⟩:=aI n
     rw [hne] at kst
     cases ho:atO O s.2 with
     |none=>
      rw [eU,hn'] at hmk
      simp only [ho] at hmk
      subst hmk
      simp only [hye]
      have hno:=ER ho
      generalize aE s.1=is at gs kst
      by_cases hs0:s.2<0
      ·have d1:decide (s.2<0)=true:=by simp [hs0]
       repeat' (first|(refine u'S ?_;simp only [wS,simprocAttr,gs,hA',c1,e3,d1,d2,d3,Bool.not_true,Bool.not_false])|refine u'Q fun _ _=>?_|refine aO ?_|refine aP (fun hg=>?_) fun hg=>?_|refine u'G ?_|fail)
       refine aX (v:=.agg [.int .i64 0,.int .i64 0,.int .i64 0,.sl true []]) rfl ?_ ?_
       ·simp only [wS,simprocAttr]
       ·simp only [wS,simprocAttr]
        rfl
      ·have d1:decide (s.2<0)=false:=by simp;omega
       have d2:decide (s.2 ≥ ((OL.length:Nat):Int))=true:=by simp;omega
       repeat' (first|(refine u'S ?_;simp only [wS,simprocAttr,gs,hA',c1,e3,d1,d2,d3,Bool.not_true,Bool.not_false])|refine u'Q fun _ _=>?_|refine aO ?_|refine aP (fun hg=>?_) fun hg=>?_|refine u'G ?_|fail)
       refine aX (v:=.agg [.int .i64 0,.int .i64 0,.int .i64 0,.sl true []]) rfl ?_ ?_
       ·simp only [wS,simprocAttr]
       ·simp only [wS,simprocAttr]
        rfl
     |some o=>
      obtain ⟨j,hsj,hoj⟩:=EQ ho
      have hom:=hO o (List.mem_of_getElem? hoj)
      have go:=hOg j o hoj
      have hjl:j<OL.length:=by have:=(List.getElem?_eq_some_iff.1 hoj).1;omega
      rw [hsj] at gs
      have d1:decide (((j:Nat):Int)<0)=false:=by simp
      have d2:decide (((j:Nat):Int) ≥ ((OL.length:Nat):Int))=false:=by simp;omega
      by_cases hl:O.length≤24
      ·have d3:decide (((OL.length:Nat):Int) > 24)=false:=by simp;omega
       have kap:=CY o.1 o.2.1 o.2.2.1 o.2.2.2 hom.1 hom.2 n (by omega)
       rw [show T.app o.1 o.2.1 o.2.2.1 o.2.2.2 n=eU c O s by rw [eU,hn'];simp only [ho,if_pos hl];rfl] at kap
       clear hom
       obtain ⟨onm,of',op,oob⟩:=o
       obtain ⟨ofa,ofb,ofc,ofd,hfe⟩:=aI of'
       obtain ⟨opa,opb,opc,opd,hpe⟩:=aI op
       simp only [opC,opE,hfe,hpe,List.cons_append,List.nil_append] at go kap
       rw [hne] at kap
       cases hx:eU c O s with
       |none=>
        rw [hx] at hmk kap
        simp only at hmk
        simp only [fJ] at kap
        generalize aE s.1=is at gs kst
        subst hmk
        simp only [hye]
        repeat' (first|(refine u'S ?_;simp only [wS,simprocAttr,gs,hA',c1,e3,d1,d2,d3,Bool.not_true,Bool.not_false,go,hjl])|refine u'Q fun _ _=>?_|refine aO ?_|refine aP (fun hg=>?_) fun hg=>?_|refine u'G ?_|fail)
        refine aX (v:=.agg [.int .i64 0,.int .i64 0,.int .i64 0,.sl true []]) rfl ?_ ?_
        ·simp only [wS,simprocAttr]
        ·simp only [wS,simprocAttr]
         rfl
       |some x=>
        obtain ⟨n2,o2,h1,h2,h3,h4⟩:=qC hx
        have hxs:T.wd x:=UR (Nat.le_trans (T.sub_size h1) hc) h4
        have hsy:T.sub y s.1=some n2:=by rw [hsub i s (Nat.le_refl _) hs,h1]
        have kse:=PJ s.1 false y x n2 (hp s (List.mem_of_getElem? hs)) hsz hsy
        have hzw:=T.set_wd s.1 hsz hxs
        have hsub':∀ (j:Nat) (s':Si),i+1≤j→M[j]? =some s'→T.sub (T.set y s.1 x) s'.1=T.sub c s'.1:=fun j s' hj hs'=>by
         rw [T.sub_set y x (hlt' (by omega) hs hs'),hsub j s' (by omega) hs']
        rw [hx] at hmk kap
        simp only at hmk
        simp only [fJ] at kap
        generalize hz:T.set y s.1 x=z at hmk kse hzw hsub'
        generalize aE s.1=is at gs kst kse
        have hzt:=T.enc_tree z
        obtain ⟨xa,xb,xc,xd,hxe⟩:=aI x
        obtain ⟨za,zb,zc',zd,hze⟩:=aI z
        rw [hye,hxe,hze] at kse
        rw [hxe] at kap
        simp only [hye]
        repeat' (first|(refine u'S ?_;simp only [wS,simprocAttr,gs,hA',c1,e3,d1,d2,d3,Bool.not_true,Bool.not_false,go,hjl])|refine u'Q fun _ _=>?_|refine aO ?_|refine aP (fun hg=>?_) fun hg=>?_|refine u'G ?_|fail)
        refine hK.go ⟨(i+1,z),hlt,hmk,hzw,hsub'⟩ (Weak.ref ⟨?_,.inr ⟨by first|exact Nat.zero_le _|exact Nat.le_refl _|simp,?_,fun g cs hg=>aD (hG0 g cs hg),?_,?_⟩⟩) (by simp only;omega)
        ·exact u'p
        ·simp only [wS,simprocAttr,hze];try exact rfl
        ·intro z hz
         simp only [List.mem_cons,List.not_mem_nil,or_false] at hz
         rcases hz with rfl|rfl|rfl|rfl|rfl|rfl<;>first|rfl|(simp only [inR];first|exact aA hOt|exact aA ht)
        ·simp only [List.all_cons,List.all_nil,Bool.and_true,Bool.and_eq_true];try exact ⟨aD htr,aD (by simp only [inL,inR,ht,Bool.and_self]),rfl,aD hzt⟩
      ·have d3:decide (((OL.length:Nat):Int) > 24)=true:=by simp;omega
       rw [eU,hn'] at hmk
       simp only [ho,if_neg hl] at hmk
       subst hmk
       simp only [hye]
       generalize aE s.1=is at gs kst
       repeat' (first|(refine u'S ?_;simp only [wS,simprocAttr,gs,hA',c1,e3,d1,d2,d3,Bool.not_true,Bool.not_false])|refine u'Q fun _ _=>?_|refine aO ?_|refine aP (fun hg=>?_) fun hg=>?_|refine u'G ?_|fail)
       refine aX (v:=.agg [.int .i64 0,.int .i64 0,.int .i64 0,.sl true []]) rfl ?_ ?_
       ·simp only [wS,simprocAttr]
       ·simp only [wS,simprocAttr]
        rfl
   ·have c1:decide (((i:Nat):Int)<((MC.length:Nat):Int))=false:=by simp;omega
    have hyw:=T.wk_enc y
    rw [show i=M.length by omega,List.drop_length,fX] at hmk
    subst hmk
    obtain ⟨ya,yb,yc,yd,hye⟩:=aI y
    rw [hye] at hyw
    simp only [hye]
    repeat' (first|(refine u'S ?_;simp only [wS,simprocAttr,c1])|refine u'Q fun _ _=>?_|refine aO ?_|refine aP (fun hg=>?_) fun hg=>?_|fail)
    refine aX (v:=.agg [.int .i64 ya,.int .i64 yb,.int .i64 yc,.sl false yd]) rfl ?_ ?_
    ·simp only [wS,simprocAttr]
    ·simp only [wS,simprocAttr]
     rw [JV,hye,AM.wk,wkL,AM.wk,hyw,wkL,AM.wk,wkL]
end Go.Proofs.YtggflhbigolakaaGreatDoor
