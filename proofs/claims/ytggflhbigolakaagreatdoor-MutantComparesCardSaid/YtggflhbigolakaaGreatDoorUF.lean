import Derived.Test.YtggflhbigolakaaGreatDoorSF
import Derived.Test.YtggflhbigolakaaGreatDoorUA
import Derived.Test.YtggflhbigolakaaGreatDoorSC
set_option linter.unusedVariables false
set_option linter.unusedSimpArgs false
namespace Go.Proofs.YtggflhbigolakaaGreatDoor
open Go.AM
attribute [local irreducible] AWp aY bC bI bU bW aN aS bL
set_option maxRecDepth 100000
set_option maxHeartbeats 4000000 in
theorem UQ (t:T) (p:List Int) (hp:p.length≤2000000000000) (ht:T.wd t):Pure Tryz.prog G0 24 [.agg (T.enc t),.sl false (aE p)] (fJ (T.sub t p)):=by
 have htr:=T.enc_tree t
 obtain ⟨res,hres⟩:∃ r,r=T.sub t p:=⟨_,rfl⟩
 have hrt:=j4 res
 rw [← hres]
 have hpr:inE aC (aE p)=true:=aW p
 have hpl:(aE p).length=p.length:=by simp [aE]
 have hpg:∀ (i:Nat) (x:Int),p[i]? =some x→(aE p)[i]? =some [.int .i64 x]:=fun i x h=>by simp [aE,h]
 generalize aE p=ip at hpr hpl hpg ⊢
 refine aU hG0 Tryz.func24 rfl (by kernel_rfl) (by simp [Tryz.ntmps24]) (by simp only [inL,inR,htr,hpr,Bool.and_self]) (by exact hrt) ?_
 simp only [Tryz.ntmps24,aH,Nat.reduceAdd]
 obtain ⟨ta,tb,tc,td,hte⟩:=aI t
 rw [hte]
 repeat' (first|(refine u'S ?_;simp only [wS,simprocAttr])|refine u'Q fun _ _=>?_|refine aV ?_|refine aR (fun hg=>?_) fun hg=>?_|fail)
 refine aJ (α:={x:Nat × T // x.1≤p.length∧T.sub x.2 (p.drop x.1)=res∧T.wd x.2}) (fun x=>[(2,.ptr 0 0 0),(4,.ptr 1 0 0),(8,.sl false ip),(9,.int .i64 (ip.length:Nat)),(10,.int .i64 (x.1.1:Nat))]) (fun x=>[.cells 0 (T.enc x.1.2),.cells 0 [.int .i64 0,.int .i64 0,.int .i64 0,.sl true []]]) (fun x=>p.length - x.1.1) ⟨(0,t),Nat.zero_le _,hres.symm,ht⟩ (Weak.ref ⟨?_,.inl ?_⟩) ?_
 ·exact u'p
 ·simp only [wS,simprocAttr,hte];try exact rfl
 ·rintro ⟨⟨i,x⟩,hi,hs,hz⟩ K3 hK3
  simp only at hi hs hz
  have hxt:=T.enc_tree x
  by_cases hlt:i<p.length
  ·have c1:decide (((i:Nat):Int)<((ip.length:Nat):Int))=true:=by simp;omega
   have hA:i<ip.length:=by omega
   obtain ⟨q,hq⟩:∃ q,p[i]? =some q:=⟨_,List.getElem?_eq_getElem hlt⟩
   have hg:=hpg i q hq
   have e3:=aL (k:=i) hlt (by omega)
   have hd:p.drop i=q::p.drop (i+1):=by
    obtain ⟨q1,q2⟩:=List.getElem?_eq_some_iff.1 hq
    rw [List.drop_eq_getElem_cons q1,q2]
   rw [hd,T.sub] at hs
   have hxl:=T.encs_len x.kids
   by_cases hq0:0≤q
   ·rw [if_pos hq0] at hs
    obtain ⟨xk,xn,xm,xs⟩:=x
    simp only [T.kids] at hs hxl
    obtain ⟨qn,rfl⟩:∃ j:Nat,q=j:=⟨q.toNat,by omega⟩
    simp only [Int.toNat_natCast] at hs
    have c2:decide (((qn:Nat):Int)<0)=false:=by simp
    cases hxs:xs[qn]? with
    |none=>
     rw [hxs] at hs
     have hql:xs.length≤qn:=List.getElem?_eq_none_iff.1 hxs
     simp only [T.enc] at hxt ⊢
     generalize T.encs xs=XE at hxl hxt
     have c3:decide (((qn:Nat):Int) ≥ ((XE.length:Nat):Int))=true:=by simp;omega
     repeat' (first|(refine u'S ?_;simp only [wS,simprocAttr,hg,hA,c1,c2,c3,e3])|refine u'Q fun _ _=>?_|refine aO ?_|refine aP (fun hg=>?_) fun hg=>?_|fail)
     refine aX (v:=.agg [.int .i64 0,.int .i64 0,.int .i64 0,.sl true []]) rfl ?_ ?_
     ·simp only [wS,simprocAttr]
     ·simp only [wS,simprocAttr]
      rw [← hs];rfl
    |some y=>
     rw [hxs] at hs
     have gy:=T.encs_get hxs
     have hql:=(List.getElem?_eq_some_iff.1 hxs).1
     have hyz:T.wd y:=T.wds_mem hz.2 y (List.mem_of_getElem? hxs)
     obtain ⟨ya,yb,yc,yd,hye⟩:=aI y
     have hyt:=T.enc_tree y
     rw [hye] at gy
     simp only [T.enc] at hxt ⊢
     generalize T.encs xs=XE at gy hxl hxt
     have c3:decide (((qn:Nat):Int) ≥ ((XE.length:Nat):Int))=false:=by simp;omega
     have hB:qn<XE.length:=by omega
     repeat' (first|(refine u'S ?_;simp only [wS,simprocAttr,hg,hA,gy,hB,c1,c2,c3,e3])|refine u'Q fun _ _=>?_|refine aO ?_|refine aP (fun hg=>?_) fun hg=>?_|fail)
     refine hK3.go ⟨(i+1,y),hlt,hs,hyz⟩ (Weak.ref ⟨?_,.inr ⟨by first|exact Nat.zero_le _|exact Nat.le_refl _|simp,?_,fun g cs hg=>aD (hG0 g cs hg),?_,?_⟩⟩) (by simp only;omega)
     ·exact u'p
     ·simp only [wS,simprocAttr,hye];try exact rfl
     ·intro z hz
      simp only [List.mem_cons,List.not_mem_nil,or_false] at hz
      rcases hz with rfl|rfl|rfl|rfl|rfl<;>first|rfl|(simp only [inR];exact aA hpr)
     ·simp only [List.all_cons,List.all_nil,Bool.and_true,Bool.and_eq_true];try exact ⟨aD (T.enc_tree _),rfl⟩
   ·rw [if_neg hq0] at hs
    have c3:True:=trivial
    have c2:decide (q<0)=true:=by simp;omega
    obtain ⟨xa,xb,xc,xd,hxe⟩:=aI x
    rw [hxe]
    repeat' (first|(refine u'S ?_;simp only [wS,simprocAttr,hg,hA,c1,c2,c3,e3])|refine u'Q fun _ _=>?_|refine aO ?_|refine aP (fun hg=>?_) fun hg=>?_|fail)
    refine aX (v:=.agg [.int .i64 0,.int .i64 0,.int .i64 0,.sl true []]) rfl ?_ ?_
    ·simp only [wS,simprocAttr]
    ·simp only [wS,simprocAttr]
     rw [← hs];rfl
  ·have c1:decide (((i:Nat):Int)<((ip.length:Nat):Int))=false:=by simp;omega
   rw [show i=p.length by omega,List.drop_length,T.sub] at hs
   have kc:=jZ _ x (Nat.le_refl _) hz
   have hxw:=T.wk_enc x
   obtain ⟨xa,xb,xc,xd,hxe⟩:=aI x
   rw [hxe] at kc hxw ⊢
   repeat' (first|(refine u'S ?_;simp only [wS,simprocAttr,c1])|refine u'Q fun _ _=>?_|refine aO ?_|refine aP (fun hg=>?_) fun hg=>?_|refine u'G ?_|fail)
   refine aX (v:=.agg [.int .i64 xa,.int .i64 xb,.int .i64 xc,.sl false xd]) rfl ?_ ?_
   ·simp only [wS,simprocAttr]
   ·simp only [wS,simprocAttr]
    rw [← hs,fJ,hxe,AM.wk,wkL,AM.wk,hxw,wkL,AM.wk,wkL]
theorem v7 (t:T) (p:List Int) (hp:p.length≤2000000000000) (ht:T.size t≤2000000000000):Pure Tryz.prog G0 24 [.agg (T.enc t),.sl false (aE p)] (fJ (T.sub t p)):=UQ t p hp (T.wd_of ht)
theorem AA:∀ (p:List Int) (t:T),p.length≤2000000000000→Pure Tryz.prog G0 42 [.agg (T.enc t),.sl false (aE p)] (fJ (T.sub t p)):=by
 intro p
 induction p with
 |nil=>
  intro t _
  have htr:=T.enc_tree t
  have hwk:=T.wk_enc t
  obtain ⟨k,n,m,es⟩:=t
  simp only [T.sub,fJ,T.enc,aE,List.map_nil] at htr hwk ⊢
  refine aU hG0 Tryz.func42 rfl (by kernel_rfl) (by simp [Tryz.ntmps42]) (by simp only [inL,inR,htr,inE,Bool.and_self] at htr ⊢;simp only [htr,Bool.and_self]) (by simp only [inL,inR,Bool.and_true,Bool.true_and] at htr ⊢;exact htr) ?_
  simp only [Tryz.ntmps42,aH,Nat.reduceAdd]
  repeat' (first|(refine u'S ?_;simp only [wS,simprocAttr])|refine u'Q fun _ _=>?_|refine aV ?_|refine aR (fun hg=>?_) fun hg=>?_|fail)
  refine aX (v:=.agg [.int .i64 k,.int .i64 n,.int .i64 m,.sl false (T.encs es)]) rfl u'p ?_
  simp only [wS,simprocAttr]
  rw [AM.wk,wkL,AM.wk,hwk,wkL,AM.wk,wkL]
 |cons i p ih=>
  intro t hl
  have htr:=T.enc_tree t
  obtain ⟨res,hres⟩:∃ r,r=T.sub t (i::p):=⟨_,rfl⟩
  have hrt:=j4 res
  have htp:inE aC (aE (i::p))=true:=aW _
  rw [← hres]
  obtain ⟨k,n,m,es⟩:=t
  rw [T.sub] at hres
  have hln:=T.encs_len es
  have hgt:=fun (j:Nat) (e:T)=>T.encs_get (es:=es) (i:=j) (e:=e)
  simp only [List.length_cons] at hl
  have hpl:(aE p).length=p.length:=by simp [aE]
  have hsl:(aE p).all (fun e=>decide (e.length=1))=true:=by simp [aE]
  have hin:aE (i::p)=[.int .i64 i]::aE p:=rfl
  rw [hin] at htp ⊢
  have htk:(aE p).take p.length=aE p:=List.take_of_length_le (by omega)
  have hih:=fun t=>ih t (by omega)
  generalize aE p=IP at hpl hsl htp htk hih
  rw [← hpl] at htk
  simp only [T.enc] at htr ⊢
  generalize T.encs es=E at hln hgt htr ⊢
  refine aU hG0 Tryz.func42 rfl (by kernel_rfl) (by simp [Tryz.ntmps42]) (by simp only [inL,inR,htp,Bool.and_true,Bool.true_and] at htr ⊢;exact htr) (by exact hrt) ?_
  simp only [Tryz.ntmps42,aH,Nat.reduceAdd]
  have e1:(((IP.length+1:Nat):Int)==0)=false:=by simp;omega
  have hle:(IP.length≤IP.length)=True:=by simp
  by_cases hi:0≤i
  ·rw [if_pos hi] at hres
   obtain ⟨j,rfl⟩:∃ j:Nat,i=j:=⟨i.toNat,by omega⟩
   simp only [Int.toNat_natCast,T.kids] at hres
   have e2:decide (((j:Nat):Int)<0)=false:=by simp
   cases he:es[j]? with
   |none=>
    rw [he] at hres
    simp only at hres
    have hql:es.length≤j:=List.getElem?_eq_none_iff.1 he
    have e3:decide (((j:Nat):Int) ≥ ((E.length:Nat):Int))=true:=by simp;omega
    repeat' (first|(refine u'S ?_;simp only [wS,simprocAttr,e1,e2,e3,List.length_cons,List.getElem?_cons_zero])|refine u'Q fun _ _=>?_|refine aO ?_|refine aP (fun hg=>?_) fun hg=>?_|fail)
    refine aX (v:=.agg [.int .i64 0,.int .i64 0,.int .i64 0,.sl true []]) rfl ?_ ?_
    ·simp only [wS,simprocAttr]
    ·simp only [wS,simprocAttr]
     rw [hres];rfl
   |some e=>
    rw [he] at hres
    simp only at hres
    have hlt:j<es.length:=(List.getElem?_eq_some_iff.1 he).1
    have hg:=hgt j e he
    have e3:decide (((j:Nat):Int) ≥ ((E.length:Nat):Int))=false:=by simp;omega
    have hltE:j<E.length:=by omega
    have ke:=hih e
    rw [← hres] at ke
    obtain ⟨ea,eb,ec,ed,hee⟩:=aI e
    rw [hee] at hg ke
    cases res with
    |none=>
     simp only [fJ] at ke
     repeat' (first|(refine u'S ?_;simp only [wS,simprocAttr,e1,e2,e3,hg,hltE,List.length_cons,hle,if_true,hsl,htk,Nat.add_sub_cancel,List.drop_succ_cons,List.drop_zero,decide_true,Bool.true_and])|refine u'Q fun _ _=>?_|refine aO ?_|refine aP (fun hg=>?_) fun hg=>?_|refine u'G ?_|fail)
     refine aX (v:=.agg [.int .i64 0,.int .i64 0,.int .i64 0,.sl false []]) rfl ?_ ?_
     ·simp only [wS,simprocAttr]
     ·simp only [wS,simprocAttr];rfl
    |some u=>
     have huw:=T.wk_enc u
     obtain ⟨ua,ub,uc,ud,hue⟩:=aI u
     simp only [fJ] at ke
     rw [hue] at ke huw
     repeat' (first|(refine u'S ?_;simp only [wS,simprocAttr,e1,e2,e3,hg,hltE,List.length_cons,hle,if_true,hsl,htk,Nat.add_sub_cancel,List.drop_succ_cons,List.drop_zero,decide_true,Bool.true_and])|refine u'Q fun _ _=>?_|refine aO ?_|refine aP (fun hg=>?_) fun hg=>?_|refine u'G ?_|fail)
     refine aX (v:=.agg [.int .i64 ua,.int .i64 ub,.int .i64 uc,.sl false ud]) rfl ?_ ?_
     ·simp only [wS,simprocAttr]
     ·simp only [wS,simprocAttr]
      rw [fJ,hue,AM.wk,wkL,AM.wk,huw,wkL,AM.wk,wkL]
  ·rw [if_neg hi] at hres
   have e3:True:=trivial
   have e2:decide (i<0)=true:=by simp;omega
   repeat' (first|(refine u'S ?_;simp only [wS,simprocAttr,e1,e2,e3,List.length_cons,List.getElem?_cons_zero])|refine u'Q fun _ _=>?_|refine aO ?_|refine aP (fun hg=>?_) fun hg=>?_|fail)
   refine aX (v:=.agg [.int .i64 0,.int .i64 0,.int .i64 0,.sl true []]) rfl ?_ ?_
   ·simp only [wS,simprocAttr]
   ·simp only [wS,simprocAttr]
    rw [hres];rfl
theorem FN (es:List (List AV)) (hne:es≠[]) (ht:inE aC es=true) (h4:∀ e∈es,e.length=4) (hl:es.length≤2000000000000):QU Tryz.prog G0 76 [.sl false es] es.length 4 false es.flatten:=by
 have hall:es.all (fun e=>decide (e.length=4))=true:=List.all_eq_true.2 fun e he=>by simpa using h4 e he
 refine rA hG0 Tryz.func76 rfl (by kernel_rfl) (by simp [Tryz.ntmps76]) (by simp only [inL,inR,ht,Bool.and_self]) (cF ht) ?_
 simp only [Tryz.ntmps76,aH,Nat.reduceAdd]
 have hem:es.isEmpty=false:=by simpa using hne
 have hpos:0<es.length:=List.length_pos_iff.2 hne
 repeat' (first|(refine u'S ?_;simp only [wS,simprocAttr,hem,Bool.not_false])|refine u'Q fun _ _=>?_|refine aV ?_|refine aR (fun hg=>?_) fun hg=>?_|fail)
 refine f8 (sz:=4) (by':=48) (mm:=es.length) (new:=es.flatten) (es:=[]) (by kernel_rfl) ?hb (by simp) (lR hall) (by omega) (by simp only [List.length_nil];omega) ?_
 case hb=>simp only [wS,simprocAttr];try exact rfl
 simp only [wS,simprocAttr]
 repeat' (first|(refine u'S ?_;simp only [wS,simprocAttr])|refine u'Q fun _ _=>?_|refine aV ?_|refine aR (fun hg=>?_) fun hg=>?_|fail)
 refine aB rfl ?_
 simp only [wS,simprocAttr]
 exact ⟨0,0,rfl,rfl⟩
set_option maxHeartbeats 4000000 in
theorem Q0:∀ (N:Nat) (t:T),T.size t≤N→N≤2000000000000→Pure Tryz.prog G0 40 [.agg (T.enc t)] (.agg (T.enc t)):=by
 intro N
 induction N with
 |zero=>intro t h;have:=T.size_pos t;omega
 |succ N ih=>
  intro t ht hN
  have htr:=T.enc_tree t
  have hwk:=T.wk_enc t
  obtain ⟨k,n,m,es⟩:=t
  have ih2:∀ e∈es,Pure Tryz.prog G0 40 [.agg (T.enc e)] (.agg (T.enc e)):=fun e he=>ih e (by have:=T.size_mem he;simp only [T.size] at ht;omega) (by omega)
  have hls:=T.len_sizes es
  simp only [T.size] at ht
  simp only [T.enc] at htr hwk ⊢
  have hgt:=fun (i:Nat) (e:T)=>T.encs_get (es:=es) (i:=i) (e:=e)
  have hln:=T.encs_len es
  have hte:=T.encs_tree es
  have he4:∀ e∈T.encs es,e.length=4:=fun e he=>by
   rw [T.encs_map] at he
   obtain ⟨y,_,rfl⟩:=List.mem_map.1 he
   exact T.enc_len y
  generalize T.encs es=E at hgt hln hte htr hwk he4 ⊢
  refine aU hG0 Tryz.func40 rfl (by kernel_rfl) (by simp [Tryz.ntmps40]) (by simp only [inL,inR,hte,Bool.and_self]) (by simp only [inR];exact htr) ?_
  simp only [Tryz.ntmps40,aH,Nat.reduceAdd]
  refine jD ?_
  by_cases hne:E=[]
  ·subst hne
   repeat' (first|(refine u'S ?_;simp only [wS,simprocAttr])|refine u'Q fun _ _=>?_|refine aV ?_|refine aR (fun hg=>?_) fun hg=>?_|fail)
   refine bH hG0 (rM false) ?_
   simp only [wS,simprocAttr]
   repeat' (first|(refine u'S ?_;simp only [wS,simprocAttr])|refine u'Q fun _ _=>?_|refine aV ?_|refine aR (fun hg=>?_) fun hg=>?_|fail)
   refine aJ (α:=Unit) (fun _=>[(1,.ptr 0 0 0),(2,.ptr 1 0 0),(11,.int .i64 0),(12,.int .i64 0)]) (fun _=>[.cells 0 [.int .i64 k,.int .i64 n,.int .i64 m,.sl false []],.cells 0 [.int .i64 0,.int .i64 0,.int .i64 0,.sl true []]]) (fun _=>0) () (Weak.ref ⟨?_,.inl ?_⟩) ?_
   ·exact u'p
   ·exact u'p
   ·rintro _ K hK
    repeat' (first|(refine u'S ?_;simp only [wS,simprocAttr])|refine u'Q fun _ _=>?_|refine aV ?_|refine aR (fun hg=>?_) fun hg=>?_|fail)
    refine ⟨_,lZ,bV (v:=.agg [.int .i64 k,.int .i64 n,.int .i64 m,.sl false []]) rfl ?_ ?_⟩
    ·simp only [wS,simprocAttr]
    ·rw [AM.wk,hwk]
  ·have hown:=FN E hne hte he4 (by omega)
   repeat' (first|(refine u'S ?_;simp only [wS,simprocAttr])|refine u'Q fun _ _=>?_|refine aV ?_|refine aR (fun hg=>?_) fun hg=>?_|fail)
   refine dW (hown _ 2 u'p) ?_
   simp only [wS,simprocAttr]
   repeat' (first|(refine u'S ?_;simp only [wS,simprocAttr])|refine u'Q fun _ _=>?_|refine aV ?_|refine aR (fun hg=>?_) fun hg=>?_|fail)
   refine aJ (α:={i:Nat // i≤es.length}) (fun i=>[(1,.ptr 0 0 0),(2,.ptr 1 0 0),(10,.osl 2 0 0 E.length 4 false),(11,.int .i64 (E.length:Nat)),(12,.int .i64 (i.1:Nat))]) (fun i=>[.cells 0 [.int .i64 k,.int .i64 n,.int .i64 m,.osl 2 0 0 E.length 4 false],.cells 0 [.int .i64 0,.int .i64 0,.int .i64 0,.sl true []],.cells 0 E.flatten]) (fun i=>es.length - i.1) ⟨0,Nat.zero_le _⟩ (Weak.ref ⟨?_,.inl ?_⟩) ?_
   ·exact u'p
   ·exact u'p
   ·rintro ⟨i,hi⟩ K hK
    by_cases hlt:i<es.length
    ·have c1:decide (((i:Nat):Int)<((E.length:Nat):Int))=true:=by simp;omega
     obtain ⟨e,he⟩:∃ e,es[i]? =some e:=⟨_,List.getElem?_eq_getElem hlt⟩
     have hg:=hgt i e he
     have hce:=ih2 e (List.mem_of_getElem? he)
     have hfl:=B1 he4 hg
     have hfs:=yT he4 hg
     have hfll:E.flatten.length=E.length*4:=cG he4
     have hA:i<E.length:=by omega
     have e3:=aL (k:=i) hlt (by omega)
     have hb1:i*4+4≤E.length*4:=by omega
     obtain ⟨xa,xb,xc,xd,hxe⟩:=aI e
     rw [hxe] at hce hfl hfs
     rw [List.cons_append,List.cons_append,List.cons_append,List.cons_append,List.nil_append] at hfl
     repeat' (first|(refine u'S ?_;simp only [wS,simprocAttr,hfl,hfll,c1,hA,hlt,hb1,e3])|refine u'Q fun _ _=>?_|refine aO ?_|refine aP (fun hg=>?_) fun hg=>?_|refine u'G ?_|fail)
     refine hK.go ⟨i+1,hlt⟩ (Weak.ref ⟨?_,.inr ⟨by first|exact Nat.zero_le _|exact Nat.le_refl _|simp,?_,fun g cs hg=>aD (hG0 g cs hg),?_,?_⟩⟩) (by simp only;omega)
     ·exact u'p
     ·simp only [wS,simprocAttr,hfs];try exact rfl
     ·intro z hz
      simp only [List.mem_cons,List.not_mem_nil,or_false] at hz
      rcases hz with rfl|rfl|rfl|rfl|rfl<;>first|rfl|rfl
     ·simp only [List.all_cons,List.all_nil,Bool.and_true,Bool.and_eq_true];try exact ⟨rfl,rfl,cF (aA hte)⟩
    ·have c1:decide (((i:Nat):Int)<((E.length:Nat):Int))=false:=by simp;omega
     repeat' (first|(refine u'S ?_;simp only [wS,simprocAttr,c1])|refine u'Q fun _ _=>?_|refine aV ?_|refine aR (fun hg=>?_) fun hg=>?_|fail)
     refine ⟨_,dD [2] [(2,.ptr 1 0 0)] [.cells 0 [.int .i64 k,.int .i64 n,.int .i64 m,.osl 2 0 0 E.length 4 false],.cells 0 [.int .i64 k,.int .i64 n,.int .i64 m,.sl false E],.dead] rfl ⟨.inl ?_,trivial⟩ ?_,bV (v:=.agg [.int .i64 k,.int .i64 n,.int .i64 m,.sl false E]) rfl ?_ ?_⟩
     ·simp only [wS,simprocAttr]
     ·refine ⟨.inr ⟨by simp,.inl rfl⟩,.inr ⟨by simp,.inr ⟨0,_,_,rfl,rfl,.inl rfl,.inl rfl,.inl rfl,.inr (.osl (cs:=E.flatten) (by simp) u'q rfl he4 ?_ hte),trivial⟩⟩,.inl ⟨by simp,rfl,by simp⟩,trivial⟩
      rw [List.drop_zero,List.take_of_length_le (by rw [cG he4];exact Nat.le_refl _)]
     ·simp only [wS,simprocAttr]
     ·rw [AM.wk,hwk]
end Go.Proofs.YtggflhbigolakaaGreatDoor
