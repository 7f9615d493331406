import Derived.Test.YtggflhbigolakaaGreatDoorSH
import Derived.Test.YtggflhbigolakaaGreatDoorSD
import Derived.Test.YtggflhbigolakaaGreatDoorVA
set_option linter.unusedSimpArgs false
namespace Go.Proofs.YtggflhbigolakaaGreatDoor
open Go.AM
attribute [local irreducible] cG bG bI bL bW bZ aQ aV bN
set_option maxRecDepth 100000
set_option maxHeartbeats 8000000 in
theorem aAt (L : List T) (nn : Int) : ∀ (N : Nat) (x : T), T.size x <= N -> N <= 1000000000000 -> T.hok (fun n => 0 <= n /\ n < (L.length : Int)) x -> Pure Tryz.prog G0 79 [.agg (T.enc x), .sl false (T.encs L), .int .i64 nn] (.agg (T.enc (T.rput L nn x))) := by
 intro N
 induction N with
 |zero=>intro x h;have:=T.size_pos x;omega
 | succ N ih =>
  intro x hx hN hh
  have htx:=T.enc_tree x
  have hot:=T.enc_tree (T.rput L nn x)
  have how:=T.wk_enc (T.rput L nn x)
  obtain ⟨k,n,m,es⟩:=x
  have ih2:∀ e∈es,T.hok (fun n=>0<=n/\n<(L.length:Int)) e->Pure Tryz.prog G0 79 [.agg (T.enc e),.sl false (T.encs L),.int .i64 nn] (.agg (T.enc (T.rput L nn e))):=fun e he h=>ih e (by have:=T.size_mem he;simp only [T.size] at hx;omega) (by omega) h
  have hls:=T.len_sizes es
  simp only [T.size] at hx
  have hLt:=T.encs_tree L
  have hLg:=fun (i:Nat) (e:T)=>T.encs_get (es:=L) (i:=i) (e:=e)
  have hLl:=T.encs_len L
  obtain ⟨out,hout⟩:∃ o,o=T.rput L nn (.mk k n m es):=⟨_,rfl⟩
  rw [<- hout] at hot how ⊢
  rw [T.rput] at hout
  rw [T.hok] at hh
  simp only [T.enc] at htx ⊢
  have hgt:=fun (i:Nat) (e:T)=>T.encs_get (es:=es) (i:=i) (e:=e)
  have hln:=T.encs_len es
  have hte:=T.encs_tree es
  generalize T.encs es=XE at htx hgt hln hte ⊢
  generalize T.encs L=LE at ih2 hLt hLg hLl ⊢
  refine bH bX Tryz.func79 rfl (by kernel_rfl) (by simp [Tryz.ntmps79]) (by simp only [aP,aI,ac,ab,ae];exact ⟨hte,hLt⟩) (by simp only [aI];exact hot) ?_
  simp only [Tryz.ntmps79,aK,Nat.reduceAdd]
  by_cases hk:k=28
  .have e28:(k==28)=true:=by simp [hk]
   rw [if_pos hk] at hout hh
   obtain ⟨kn,rfl⟩:∃ j:Nat,n=j:=⟨n.toNat,by omega⟩
   have hkl:kn<L.length:=by omega
   obtain ⟨y,hy⟩:∃ y,L[kn]? =some y:=⟨_,ah hkl⟩
   rw [ax,hy,eu] at hout
   subst hout
   have gy:=hLg kn out hy
   have hA:kn<LE.length:=by omega
   obtain ⟨oa,ob,oc,od,hoe⟩:=aN out
   rw [hoe] at gy how ⊢
   refine bB (eB e28 gy hA)
   exact dB (v:=.agg [.int .i64 oa,.int .i64 ob,.int .i64 oc,.sl false od]) rfl aZ (by rw [AM.wk,how])
  .have e28 : (k == 28) = false := by simp [hk]
   rw [if_neg hk] at hout hh
   obtain ⟨n',hn'⟩:∃ x:Int,x=(if n= -100 then nn else n):=⟨_,rfl⟩
   rw [<- hn',T.rputs_map] at hout
   have hpt:∀ l:List T,cQ aE (l.map fun e=>T.enc (T.rput L nn e))=true:=fun l=>by
    have:=T.encs_tree (l.map (T.rput L nn))
    rw [T.encs_map,gn] at this
    exact this
   have hps:∀ l:List T,∀ e∈l.map (fun e=>T.enc (T.rput L nn e)),e.length=4:=fun l e he=>by
    obtain ⟨y,_,rfl⟩:=cf.1 he
    exact T.enc_len _
   have hoe:T.enc out=[.int .i64 k,.int .i64 n',.int .i64 m,.sl false (es.map fun e=>T.enc (T.rput L nn e))]:=by
    rw [hout,T.enc,T.encs_map,gn];rfl
   rw [hoe] at hot how ⊢
   have hnn:(n== -100)=true/\n'=nn\/(n== -100)=false/\n'=n:=by
    by_cases h:n= -100
    .exact .inl ⟨by simp [h],by rw [hn',if_pos h]⟩
    .exact .inr ⟨by simp [h],by rw [hn',if_neg h]⟩
   rcases hnn with ⟨e100,e'⟩|⟨e100,e'⟩
   all_goals
    refine aR (bF e28 e100)
    refine aJ (α:={i:Nat // i<=es.length}) (fun i=>[(1,.sl false LE),(2,.int .i64 nn),(3,.ptr 0 0 0),(6,.ptr 1 0 0),(7,.ptr 2 0 0),(8,.int .i64 (i.1:Nat))]) (fun i=>[.cells 0 [.int .i64 k,.int .i64 n,.int .i64 m,.sl false XE],.cells 0 [.int .i64 0,.int .i64 0,.int .i64 0,.sl true []],.cells 0 [.int .i64 k,.int .i64 n',.int .i64 m,rv 3 (i.1 - 1) 4 ((es.take i.1).map fun e=>T.enc (T.rput L nn e))],eX (i.1 - 1) ((es.take i.1).map fun e=>T.enc (T.rput L nn e))]) (fun i=>es.length - i.1) ⟨0,az _⟩ (cA [] (kp [0,1,2,3]) bX (fun r hr=>absurd hr (bm r)) ?_ ?_ ?_) ?_
    .simp only [wS,simprocAttr,dL,iD,and_true,true_or]
    .simp only [bg,bz,aI,aB hLt,ac,ab];rfl
    .simp only [wS,simprocAttr,ci,bu,eI,eG,e']
     simp only [hY,and_true]
     exact ⟨kr rfl (by simp only [aG,aP,aI,ac,ab];exact aB hte) (by simp),kr rfl rfl (by simp),.inr ⟨rfl,rfl,.inr ⟨.inl (by simp),.inr ⟨0,_,_,rfl,rfl,.inl rfl,.inl rfl,.inl rfl,.inr .toRsv,trivial⟩⟩⟩⟩
    .rintro ⟨i,hi⟩ K3 hK3
     try simp only at hi
     have hal:((es.take i).map fun e=>T.enc (T.rput L nn e)).length=i:=by rw [bp,cr];omega
     by_cases hlt:i<es.length
     .have c1:decide (((i:Nat):Int)<((XE.length:Nat):Int))=true:=by simp;omega
      have hltE:i<XE.length:=by omega
      obtain ⟨e,he⟩:∃ e,es[i]? =some e:=⟨_,ah hlt⟩
      have hg:=hgt i e he
      have hce:=ih2 e (aj he) (T.hoks_mem hh e (aj he))
      have htk:=kH (f:=fun e=>T.enc (T.rput L nn e)) he
      have e3:=aO (k:=i) hlt (by omega)
      obtain ⟨xa,xb,xc,xd,hxe⟩:=aN e
      obtain ⟨pa,pb,pc,pd,hpp⟩:=aN (T.rput L nn e)
      rw [hxe] at hg hce
      rw [hpp] at hce htk
      have hps':=hps (es.take i)
      have hvv:i=if ((es.take i).map fun e=>T.enc (T.rput L nn e))=[] then 0 else i - 1+1:=by
       by_cases h0:((es.take i).map fun e=>T.enc (T.rput L nn e))=[]
       .rw [if_pos h0];rw [h0] at hal;simpa using hal.symm
       .rw [if_neg h0]
        have:i≠0:=fun hz=>h0 (by rw [hz];rfl)
        omega
      repeat' (first|(refine cC ?_;simp only [wS,simprocAttr,hg,hltE,c1,e3,↓bM,↓aY])|refine aM|refine iP ?_|refine cL (v':=i) (es:=[[.int .i64 pa,.int .i64 pb,.int .i64 pc,.sl false pd]]) (by':=48) (by kernel_rfl) aZ hvv hps' (by simp [cW]) (by simp) (by rw [hal];simp only [am];omega) (gR ?_))
      refine hK3.go ⟨i+1,hlt⟩ aX (by simp only;omega)
      .simp only [wS,simprocAttr,↓bM,↓aY];try exact rfl
      .simp only [wS,simprocAttr,cj,htk];try exact rfl
      .intro z hz
       replace hz:=aC hz
       rcases hz with rfl|rfl|rfl|rfl|rfl|rfl<;>first|rfl|(simp only [aI];exact aB hLt)
      .refine aS;try exact ⟨(by simp only [aG,aP,aI,ac,ab];exact aB hte),rfl,by simp only [aG,aP,aI,ac,ab];exact bU rfl,bA (aB (hpt _))⟩
     .have c1:decide (((i:Nat):Int)<((XE.length:Nat):Int))=false:=by simp;omega
      obtain rfl:i=es.length:=by omega
      rw [bi] at hal
      repeat' (first|(refine cC ?_;simp only [wS,simprocAttr,bi,c1])|refine sI|fail)
      refine Cont.go (by assumption) ?_
      repeat' (first|(refine cC ?_;simp only [wS,simprocAttr,bi,c1])|refine sI|fail)
      refine Cont.go (by assumption) (cK (cA [3] (kp [0,1,2]) (l:=[(6,.ptr 1 0 0),(7,.ptr 2 0 0)]) (h:=[.cells 0 [.int .i64 k,.int .i64 n,.int .i64 m,.sl false XE],.cells 0 [.int .i64 0,.int .i64 0,.int .i64 0,.sl true []],.cells 0 [.int .i64 k,.int .i64 n',.int .i64 m,.sl false (es.map fun e=>T.enc (T.rput L nn e))]]) bX (fun r hr=>absurd hr (bm r)) ?_ ?_ ?_) ?_)
      .simp only [wS,simprocAttr,dL,iD,and_true,true_or]
      .rfl
      .simp only [wS,simprocAttr,bi]
       simp only [hY,and_true]
       exact ⟨kr rfl (by simp only [aG,aP,aI,ac,ab];exact aB hte) (by simp),kr rfl rfl (by simp),.inr ⟨rfl,by simp only [aG,aP,aI,ac,ab];exact aB (hpt es),.inr ⟨.inl (by simp),.inr ⟨0,_,_,rfl,rfl,.inl rfl,.inl rfl,.inl rfl,.inr (eA (v:=es.length - 1) rfl (by simp) (hps es) (hpt es)),trivial⟩⟩⟩,rfl⟩
      refine aF
      exact dB (v:=.agg [.int .i64 k,.int .i64 n',.int .i64 m,.sl false (es.map fun e=>T.enc (T.rput L nn e))]) rfl aZ (by rw [AM.wk,how])
set_option maxHeartbeats 8000000 in
theorem IX (nm:ByteArray) (f p:T) (b:Int) (hf:T.size f<=100000000000) (hp:T.size p<=100000000000) (t:T) (ht:T.size t<=1000000000000):Pure Tryz.prog G0 43 [.agg (sF nm f p b),.agg (T.enc t)] (gG (T.app nm f p b t)):=by
 have kv:=QB nm f p b (by omega) (by omega)
 have ho:=jL nm f p b
 have h2t:=T.enc_tree t
 have km:=TK f t hf ht
 obtain ⟨res,hres⟩:∃ r,r=T.app nm f p b t:=⟨_,rfl⟩
 have hrt:=mZ res
 have hvs:hJ nm f p b=true->T.size p<=32:=lP
 have hvh:=fun (hv:hJ nm f p b=true) mp (hm:T.mat f t true []=(true,mp))=>QC hv hm
 have hg:=T.mat_good f t true [] ht (fun y hy=>(by cases hy))
 unfold T.app at hres
 rw [show T.app nm f p b t=res from hres.symm]
 generalize hJ nm f p b=V at kv hres hvs hvh
 rcases hm:T.mat f t true [] with ⟨ok,mp⟩
 rw [hm] at km hg
 simp only at hg
 simp only [hm] at hres hvh
 cases V with
 |false=>
  simp only [aw,if_false] at hres
  obtain ⟨tk,tn,tm,TE,hte⟩:=aN t
  obtain ⟨fk,fn,fm,FE,hfe⟩:=aN f
  obtain ⟨pk,pn,pm,PE',hpe⟩:=aN p
  simp only [sF,hfe,hpe,hte,ar,ba] at ho h2t kv km ⊢
  refine bH bX Tryz.func43 rfl (by kernel_rfl) (by simp [Tryz.ntmps43]) (by simp only [aP,aI,ac,ab,ae] at ho h2t ⊢;exact ⟨ho,h2t⟩) (by exact hrt) ?_
  simp only [Tryz.ntmps43,aK,Nat.reduceAdd]
  refine jI
  refine bK (v:=.agg [.int .i64 0,.int .i64 0,.int .i64 0,.sl true []]) rfl ?_ ?_
  .refine aA
  .refine aA
   rw [hres];rfl
 |true=>
  have hp32:=hvs rfl
  simp only [if_true] at hres
  cases ok with
  |false=>
   simp only [QQ] at km
   obtain ⟨tk,tn,tm,TE,hte⟩:=aN t
   obtain ⟨fk,fn,fm,FE,hfe⟩:=aN f
   obtain ⟨pk,pn,pm,PE',hpe⟩:=aN p
   simp only [sF,hfe,hpe,hte,ar,ba] at ho h2t kv km ⊢
   refine bH bX Tryz.func43 rfl (by kernel_rfl) (by simp [Tryz.ntmps43]) (by simp only [aP,aI,ac,ab,ae] at ho h2t ⊢;exact ⟨ho,h2t⟩) (by exact hrt) ?_
   simp only [Tryz.ntmps43,aK,Nat.reduceAdd]
   refine jI
   refine bK (v:=.agg [.int .i64 0,.int .i64 0,.int .i64 0,.sl true []]) rfl ?_ ?_
   .refine aA
   .refine aA
    rw [hres];rfl
  |true=>
   obtain ⟨hO,hh1,hh2⟩:=hvh rfl mp rfl
   replace hres:res=H4 (T.cmp (T.put mp t.num p) t) (T.put mp t.num p):=hres
   simp only [QQ] at km
   have hps:T.size (T.put mp t.num p)<=T.size p*1000000000000:=T.put_size hg (by decide) _ _
   rw [T.put_rput t.num p hh1] at hres hps
   have kp:=aAt (yQ mp (fU mp+1).toNat) t.num _ p (ap _) (by omega) (T.hok_mono (fun n h=>⟨h.1,by rw [J5];have:=hO.2.1;omega⟩) p hh2)
   generalize yQ mp (fU mp+1).toNat=L at km kp hres hps
   have ks:=T8 (T.rput L t.num p) t (by omega)
   have htn:∀ (a b c:Int) (l:List (List AV)),T.enc t=[.int .i64 a,.int .i64 b,.int .i64 c,.sl false l]->t.num=b:=fun a b c l h=>by
    obtain ⟨k,n,m,es⟩:=t
    simp only [T.enc,de,AV.int.injEq,true_and] at h
    exact h.2.1
   have hLt:=T.encs_tree L
   generalize T.cmp (T.rput L t.num p) t=cv at hres ks
   generalize hout:T.rput L t.num p=out at hres ks kp
   have hot:=T.wk_enc out
   have hott:=T.enc_tree out
   obtain ⟨tk,tn,tm,TE,hte⟩:=aN t
   rw [htn _ _ _ _ hte] at kp
   obtain ⟨fk,fn,fm,FE,hfe⟩:=aN f
   obtain ⟨pk,pn,pm,PE',hpe⟩:=aN p
   obtain ⟨oa,ob,oc,OE,hoe⟩:=aN out
   simp only [sF,hfe,hpe,hte,hoe,ar,ba] at ho h2t kv km kp ks hot hott ⊢
   generalize T.encs L=LE at km kp hLt
   refine bH bX Tryz.func43 rfl (by kernel_rfl) (by simp [Tryz.ntmps43]) (by simp only [aP,aI,ac,ab,ae] at ho h2t ⊢;exact ⟨ho,h2t⟩) (by exact hrt) ?_
   simp only [Tryz.ntmps43,aK,Nat.reduceAdd]
   repeat' (first|(refine cC ?_;simp only [wS,simprocAttr,bf,be])|refine aM|refine iP ?_|refine bO bX (kp) (gR ?_))
   .rw [H4,if_pos (by simp_all)] at hres
    refine bK (v:=.agg [.int .i64 0,.int .i64 0,.int .i64 0,.sl true []]) rfl ?_ ?_
    .refine aA
    .refine aA
     rw [hres];rfl
   .rw [H4,if_neg (by simp_all)] at hres
    refine bK (v:=.agg [.int .i64 oa,.int .i64 ob,.int .i64 oc,.sl false OE]) rfl ?_ ?_
    .refine aA
    .refine aA
     rw [hres]
     simp only [gG,AM.wk,wkL,hoe] at hot ⊢
     simp only [de,AV.sl.injEq,true_and,and_true] at hot
     rw [hot]
def ZR (o:hI):Prop:=T.size o.2.1<=100000000000/\T.size o.2.2.1<=100000000000
set_option maxHeartbeats 8000000 in
theorem IM (t : T) (ht : T.size t <= 100000000000) (b : Bool) (ol : List hI) (hops : ∀ o ∈ ol, ZR o) (hol : ol.length <= 1000000000) : Pure Tryz.prog G0 36 [.agg (T.enc t), .sl b (ol.map eE)] (.sl false (SE (eZ t ol))) := by
 have htr:=T.enc_tree t
 have kps:=OM _ t (ap _) ht
 have hOl:(ol.map eE).length=ol.length:=bp ..
 have hOt:=dH ol
 have hOg:∀ (j:Nat) (o:hI),ol[j]? =some o->(ol.map eE)[j]? =some (eE o):=fun j o h=>by rw [bh,h];rfl
 obtain ⟨res,hres⟩:∃ r,r=eZ t ol:=⟨_,rfl⟩
 have hrt:aI aE (.sl false (SE res))=true:=by simp only [aI];exact kF _
 have hwk:AM.wk (.sl false (SE res))=.sl false (SE res):=by
  clear hres hrt
  simp only [AM.wk,AV.sl.injEq,true_and,gS]
  induction res with
  |nil=>rfl
  |cons x l ih=>
   have:=J1 [x.1]
   simp only [PE,ay,bu,wkL,de,and_true] at this
   simp only [SE,ay,wkL,AM.wk,de,and_true] at ih ⊢
   exact ⟨this,ih⟩
 rw [<- hres]
 unfold eZ at hres
 have hpl:=T.paths_len t
 have hsub:=fun (p:List Int) (h:p∈T.paths t)=>T.paths_sub t p h
 have hpg:=fun (i:Nat) (p:List Int) (h:(T.paths t)[i]? =some p)=>yO h
 have hPl:=mD (T.paths t)
 have hPt:=lR (T.paths t)
 generalize T.paths t=ps at kps hres hpl hsub hpg hPl hPt
 generalize hPS:PE ps=PS at kps hpg hPl hPt
 have kat:=fun (p:List Int) (hp:p.length<=1000000000000) (t':T) (h:T.sub t p=some t')=>aDi p false t t' hp h
 obtain ⟨ta,tb,tc,TE,hte⟩:=aN t
 rw [hte] at htr kps kat ⊢
 generalize ol.map eE=OL at hOl hOt hOg ⊢
 refine bH bX Tryz.func36 rfl (by kernel_rfl) (by simp [Tryz.ntmps36]) (by simp only [aP,aI,ac,ab,ae] at htr ⊢;exact ⟨htr,hOt⟩) (by exact hrt) ?_
 simp only [Tryz.ntmps36,aK,Nat.reduceAdd]
 have hTE:cQ aE TE=true:=by simpa only [aP,aI,ac,ab] using htr
 by_cases h24:24<ol.length
 .have c0:decide (((OL.length:Nat):Int) > 24)=true:=by simp;omega
  rw [if_pos h24] at hres
  subst hres
  refine bB c0
  refine aD rfl ?_
  refine aA
  rfl
 .have c0 : decide (((OL.length : Nat) : Int) > 24) = false := by simp; omega
  rw [if_neg h24] at hres
  refine c7 c0
  refine aJ (α:={i:Nat // i<=ps.length}) (fun i=>[(1,.sl b OL),(2,.ptr 0 0 0),(5,rv 1 ((SE (dJ t ol (ps.take i.1))).length - 1) 2 (SE (dJ t ol (ps.take i.1)))),(6,.sl false PS),(7,.int .i64 (i.1:Nat))]) (fun i=>[.cells 0 [.int .i64 ta,.int .i64 tb,.int .i64 tc,.sl false TE],eX ((SE (dJ t ol (ps.take i.1))).length - 1) (SE (dJ t ol (ps.take i.1)))]) (fun i=>ps.length - i.1) ⟨0,az _⟩ (cA [] (kp [0,1]) bX (fun r hr=>absurd hr (bm r)) ?_ ?_ ?_) ?_
  .simp only [wS,simprocAttr,dL,iD,and_true,true_or,ci,dJ,SE,bu,eI,hPl,c0];try exact .toRsv
  .simp only [bg,bz,ab,ae,aI,aB hOt,aB hPt,true_and];exact ⟨rfl,bU rfl⟩
  .simp only [wS,simprocAttr,ci,dJ,SE,bu,eG]
   simp only [hY,and_true]
   exact kr rfl (by simp only [aG,aP,aI,ac,ab];exact aB hTE) (by simp)
  .rintro ⟨i,hi⟩ K hK
   try simp only at hi
   by_cases hlt:i<ps.length
   .have c1:decide (((i:Nat):Int)<((PS.length:Nat):Int))=true:=by simp;omega
    obtain ⟨p,hp⟩:∃ p,ps[i]? =some p:=⟨_,ah hlt⟩
    have gp:=hpg i p hp
    have hA:i<PS.length:=by omega
    have e3:=aO (k:=i) hlt (by omega)
    obtain ⟨hpn,t',hs,hts⟩:=hsub p (aj hp)
    have ka:=kat p (by omega) t' hs
    have htk:=vG (ol:=ol) hp hs
    have hal:=nI t ol (ps.take i)
    have hal2:(ps.take i).length*ol.length<=100000000000*24:=Nat.mul_le_mul (by rw [cr];omega) (by omega)
    have kap:=fun (o:hI) (ho:ZR o)=>IX o.1 o.2.1 o.2.2.1 o.2.2.2 ho.1 ho.2 t' (by omega)
    obtain ⟨na,nb,nc,NE,hne⟩:=aN t'
    have hnt:=T.enc_tree t'
    rw [hne] at ka kap hnt
    have hipt:cQ aE (aT p)=true:=bD p
    generalize hA0:dJ t ol (ps.take i)=A0 at hal htk ⊢
    have hse:∀ (l:List (List Int × Nat)) (j:Nat),SE (l++[(p,j)])=SE l++[[.sl false (aT p),.int .i64 (j:Nat)]]:=fun l j=>WG _ _
    change Pure Tryz.prog G0 _ [_,.sl false (aT p)] _ at ka
    generalize aT p=ip at gp ka hipt hse
    refine c7 (dV gp hA c1 e3)
    refine aJ (α:={j:Nat // j<=ol.length}) (fun j=>[(1,.sl b OL),(2,.ptr 0 0 0),(5,rv 1 ((SE (A0++fD t' p (ol.take j.1) 0)).length - 1) 2 (SE (A0++fD t' p (ol.take j.1) 0))),(6,.sl false PS),(7,.int .i64 (i:Nat)),(8,.ptr 2 0 0),(10,.int .i64 (j.1:Nat))]) (fun j=>[.cells 0 [.int .i64 ta,.int .i64 tb,.int .i64 tc,.sl false TE],eX ((SE (A0++fD t' p (ol.take j.1) 0)).length - 1) (SE (A0++fD t' p (ol.take j.1) 0)),.cells 0 [.int .i64 na,.int .i64 nb,.int .i64 nc,.sl false NE]]) (fun j=>ol.length - j.1) ⟨0,az _⟩ (Weak.ref ⟨?_,.inl ?_⟩) ?_
    .simp only [wS,simprocAttr,ci,fD,br,c0];try exact rfl
    .simp only [wS,simprocAttr,ci,fD,br];try exact rfl
    .rintro ⟨j,hj⟩ K2 hK2
     try simp only at hj
     have hhl:=tH t' p (ol.take j) 0
     rw [cr] at hhl
     have hAl:(SE (A0++fD t' p (ol.take j) 0)).length<=100000000000*24+24:=by rw [NM,an];omega
     have hAs:=Q7 (A0++fD t' p (ol.take j) 0)
     by_cases hltj:j<ol.length
     .have d1:decide (((j:Nat):Int)<((OL.length:Nat):Int))=true:=by simp;omega
      have hB:j<OL.length:=by omega
      have f3:=aO (k:=j) hltj (by omega)
      obtain ⟨o,ho⟩:∃ o,ol[j]? =some o:=⟨_,ah hltj⟩
      have gh:=hOg j o ho
      have ko:=kap o (hops o (aj ho))
      have hnx:=DE (t:=t') (p:=p) ho
      obtain ⟨nm,f,pu,bk⟩:=o
      obtain ⟨fa,fb,fc,FE,hfe⟩:=aN f
      obtain ⟨pa,pb,pc,PE',hpe⟩:=aN pu
      simp only [eE,sF,hfe,hpe,ar,ba,uC] at gh ko hnx
      generalize T.app nm f pu bk t'=r at ko hnx
      have hAt:=kF (A0++fD t' p (ol.take (j+1)) 0)
      rw [hnx] at hAt
      cases r with
      |none=>
       simp only [BS,br] at hnx hAt
       simp only [gG] at ko
       repeat' (first|(refine cC ?_;simp only [wS,simprocAttr,gp,hA,gh,hB,d1,f3,↓bM,↓aY])|refine aM|refine iP ?_|fail)
       refine hK2.go ⟨j+1,hltj⟩ aX (by simp only;omega)
       .simp only [wS,simprocAttr,hnx];try exact rfl
       .simp only [wS,simprocAttr,hnx];try exact rfl
       .intro z hz
        replace hz:=aC hz
        rcases hz with rfl|rfl|rfl|rfl|rfl|rfl|rfl<;>first|rfl|(simp only [aI];first|exact aB hOt|exact aB hPt|exact aB hipt|exact bU rfl)
       .refine aS;try exact ⟨by simp only [aG,aP,aI,ac,ab];exact aB hTE,bA (aB (by rw [hnx];exact hAt)),by simp only [aG,aP,aI,ac,ab];exact aB (by simpa only [aP,aI,ac,ab] using hnt)⟩
      |some x=>
       simp only [BS] at hnx hAt
       rw [<- bj] at hAt
       rw [hse] at hAt
       obtain ⟨xa,xb,xc,XE,hxe⟩:=aN x
       simp only [gG,hxe] at ko
       have hnx2:SE (A0++(fD t' p (ol.take j) 0++[(p,j)]))=SE (A0++fD t' p (ol.take j) 0)++[[.sl false ip,.int .i64 (j:Nat)]]:=by rw [<- bj,hse]
       generalize hAP:SE (A0++fD t' p (ol.take j) 0)=AP at hAl hAs hAt hnx2 ⊢
       repeat' (first|(refine cC ?_;simp only [wS,simprocAttr,gp,hA,gh,hB,d1,f3,↓bM,↓aY])|refine aM|refine iP ?_|refine cL (v':=(AP++[[AV.sl false ip,AV.int .i64 (j:Nat)]]).length - 1) (es:=[[.sl false ip,.int .i64 (j:Nat)]]) (by':=32) (by kernel_rfl) aZ vv hAs (by simp [cW]) (by simp) (by simp only [am];omega) (gR ?_))
       refine hK2.go ⟨j+1,hltj⟩ aX (by simp only;omega)
       .simp only [wS,simprocAttr,hnx,hnx2];try exact rfl
       .simp only [wS,simprocAttr,hnx,hnx2];try exact rfl
       .intro z hz
        replace hz:=aC hz
        rcases hz with rfl|rfl|rfl|rfl|rfl|rfl|rfl<;>first|rfl|(simp only [aI];first|exact aB hOt|exact aB hPt|exact aB hipt|exact bU rfl)
       .refine aS;try exact ⟨by simp only [aG,aP,aI,ac,ab];exact aB hTE,bA (aB (by rw [hnx,hnx2];exact hAt)),by simp only [aG,aP,aI,ac,ab];exact aB (by simpa only [aP,aI,ac,ab] using hnt)⟩
     .have d1:decide (((j:Nat):Int)<((OL.length:Nat):Int))=false:=by simp;omega
      obtain rfl:j=ol.length:=by omega
      rw [bi,<- htk] at hAl ⊢
      refine bB (eB d1 e3 c1)
      refine hK.go ⟨i+1,hlt⟩ aX (by simp only;omega)
      .exact aZ
      .exact aZ
      .intro z hz
       replace hz:=aC hz
       rcases hz with rfl|rfl|rfl|rfl|rfl<;>first|rfl|(simp only [aI];first|exact aB hOt|exact aB hPt|exact aB hipt|exact bU rfl)
      .refine aS;try exact ⟨by simp only [aG,aP,aI,ac,ab];exact aB hTE,bA (aB (kF _))⟩
   .have c1:decide (((i:Nat):Int)<((PS.length:Nat):Int))=false:=by simp;omega
    obtain rfl:i=ps.length:=by omega
    rw [bi,<- hres]
    have hrs:=Q7 res
    have hrl:=kF res
    refine cP c1
    refine Cont.go (by assumption) ?_
    refine cP c1
    refine Cont.go (by assumption) (cK (cA [1] (kp [0]) (l:=[(5,.sl false (SE res))]) (h:=[.cells 0 [.int .i64 ta,.int .i64 tb,.int .i64 tc,.sl false TE]]) bX (fun r hr=>absurd hr (bm r)) ?_ ?_ ?_) ?_)
    .simp only [wS,simprocAttr,dL,iD,and_true,true_or];exact .inr (eA (v:=(SE res).length - 1) rfl (by simp) hrs hrl)
    .simp only [bg,bz,ab,aI];exact aB hrl
    .refine aA
     simp only [hY,and_true]
     exact ⟨kr rfl (by simp only [aG,aP,aI,ac,ab];exact aB hTE) (by simp),rfl⟩
    refine aF
    refine aD rfl ?_
    simp only [wS,simprocAttr,hwk]
def gD:List Int->List Int->Int
 | [],[]=>0
 | [],_::_=> -1
 |_::_,[]=>1
 |x::a,y::b=>if dC x y≠0 then dC x y else gD a b
def jJ (a b:List Int × Int):Int:=if gD a.1 b.1≠0 then gD a.1 b.1 else dC a.2 b.2
theorem mU (x:Int):dC x x=0:=dO.2 rfl
theorem D8 {a b:List Int} {i:Nat} {x y:Int} (ha:a[i]? =some x) (hb:b[i]? =some y):gD (a.drop i) (b.drop i)=if dC x y≠0 then dC x y else gD (a.drop (i+1)) (b.drop (i+1)):=by
 obtain ⟨h1,h2⟩:=aq.1 ha
 obtain ⟨h3,h4⟩:=aq.1 hb
 rw [cg h1,cg h3,h2,h4,gD]
theorem zF {a b:List Int} {i:Nat} (h:gD a b=gD (a.drop i) (b.drop i)) (h1:i<=a.length) (h2:i<=b.length) (h3:i=a.length\/i=b.length):gD a b=dC (a.length:Int) (b.length:Int):=by
 rw [h]
 rcases h3 with rfl|rfl
 .rw [du]
  cases hb:b.drop a.length with
  |nil=>have:=List.drop_eq_nil_iff.1 hb;rw [gD,dC,if_neg (by omega),if_neg (by omega)]
  |cons y ys=>
   have:=congrArg List.length hb
   simp only [ik,af] at this
   rw [gD,dC,if_pos (by omega)]
 .rw [du]
  cases hb:a.drop b.length with
  |nil=>have:=List.drop_eq_nil_iff.1 hb;rw [gD,dC,if_neg (by omega),if_neg (by omega)]
  |cons y ys=>
   have:=congrArg List.length hb
   simp only [ik,af] at this
   rw [gD,dC,if_neg (by omega),if_pos (by omega)]
theorem aCk (a b:List Int) (ha:a.length<=1000000000000000):Pure Tryz.prog G0 85 [.sl false (aT a),.sl false (aT b)] (.int .i64 (gD a b)):=by
 have h1t:cQ aE (aT a)=true:=bD a
 have h2t:cQ aE (aT b)=true:=bD b
 have hga:∀ (i:Nat) (x:Int),a[i]? =some x->(aT a)[i]? =some [.int .i64 x]:=fun i x h=>by simp [aT,h]
 have hgb:∀ (i:Nat) (x:Int),b[i]? =some x->(aT b)[i]? =some [.int .i64 x]:=fun i x h=>by simp [aT,h]
 have hna:(aT a).length=a.length:=by simp [aT]
 have hnb:(aT b).length=b.length:=by simp [aT]
 generalize aT a=A at h1t hga hna ⊢
 generalize aT b=B at h2t hgb hnb ⊢
 refine aL bX Tryz.func85 rfl (by kernel_rfl) (by simp [Tryz.ntmps85]) (by simp only [aP,aI,h1t,h2t,ai]) (by simp [aI]) ?_
 simp only [Tryz.ntmps85,aK,Nat.reduceAdd]
 refine aF
 refine aJ (α:={i:Nat // i<=a.length/\i<=b.length/\gD a b=gD (a.drop i) (b.drop i)}) (fun i=>[(0,.sl false A),(1,.sl false B),(9,.sl false A),(10,.int .i64 (A.length:Nat)),(11,.int .i64 (i.1:Nat))]) (fun i=>[]) (fun i=>a.length - i.1) ⟨0,az _,az _,rfl⟩ (Weak.ref ⟨?_,.inl ?_⟩) ?_
 .exact aZ
 .exact aZ
 .rintro ⟨i,hi1,hi2,hi3⟩ K hK
  try simp only at hi1 hi2 hi3
  by_cases hlt:i<a.length
  .have c1:decide (((i:Nat):Int)<((A.length:Nat):Int))=true:=by simp;omega
   obtain ⟨x,hx⟩:∃ x,a[i]? =some x:=⟨_,ah hlt⟩
   have gx:=hga i x hx
   have e3:=aO (k:=i) hlt (by omega)
   have hA:i<A.length:=by omega
   by_cases hlb:i<b.length
   .have c2:decide (((i:Nat):Int) >= ((B.length:Nat):Int))=false:=by simp;omega
    obtain ⟨y,hy⟩:∃ y,b[i]? =some y:=⟨_,ah hlb⟩
    have gy:=hgb i y hy
    have hB:i<B.length:=by omega
    have hd:=D8 hx hy
    have kc:=KM x y
    generalize dC x y=cv at hd kc
    refine c7 (eT gx gy hA hB c1 c2 e3)
    .refine aD rfl ?_
     refine aA
     rw [hi3,hd,if_pos (by simp_all)]
    .refine hK.go ⟨i+1,hlt,hlb,by rw [hi3,hd,if_neg (by simp_all)]⟩ aX (by simp only;omega)
     .exact aZ
     .exact aZ
     .intro z hz
      replace hz:=aC hz
      rcases hz with rfl|rfl|rfl|rfl|rfl<;>first|rfl|(simp only [aI];first|exact aB h1t|exact aB h2t)
     .refine aS;try exact rfl
   .have c2:decide (((i:Nat):Int) >= ((B.length:Nat):Int))=true:=by simp;omega
    have he:=zF hi3 hi1 hi2 (.inr (by omega))
    refine bB (dV gx hA c1 c2)
    refine aD rfl ?_
    refine aA
    rw [he,dC,if_neg (by omega),if_pos (by omega)]
  .have c1:decide (((i:Nat):Int)<((A.length:Nat):Int))=false:=by simp;omega
   have he:=zF hi3 hi1 hi2 (.inl (by omega))
   refine bB c1
   .refine aD rfl ?_
    refine aA
    rw [he,dC,if_pos (by simp_all)]
   .refine aD rfl ?_
    refine aA
    rw [he,dC,if_neg (by simp_all),if_neg (by simp_all<;>omega)]
theorem aAm (a b:List Int × Int) (ha:a.1.length<=1000000000000000):Pure Tryz.prog G0 50 [.agg [.sl false (aT a.1),.int .i64 a.2],.agg [.sl false (aT b.1),.int .i64 b.2]] (.int .i64 (jJ a b)):=by
 have kl:=aCk a.1 b.1 ha
 have kc:=KM a.2 b.2
 obtain ⟨p,x⟩:=a
 obtain ⟨q,y⟩:=b
 have h1t:cQ aE (aT p)=true:=bD p
 have h2t:cQ aE (aT q)=true:=bD q
 have ko:Pure Tryz.prog G0 47 [.sl true [[.int .i64 (gD p q)],[.int .i64 (dC x y)]]] _:=aB9 true [gD p q,dC x y] (by simp)
 have hv:jJ (p,x) (q,y)=iW [gD p q,dC x y]:=by
  simp only [jJ,iW]
  split
  .rfl
  .split
   .rfl
   .rename_i h;exact Decidable.not_not.1 h
 rw [hv]
 simp only at kl kc
 generalize aT p=ip at kl h1t ⊢
 generalize aT q=iq at kl h2t ⊢
 refine aL bX Tryz.func50 rfl (by kernel_rfl) (by simp [Tryz.ntmps50]) (by simp only [aP,aI,h1t,h2t,ai]) (by simp [aI]) ?_
 simp only [Tryz.ntmps50,aK,Nat.reduceAdd]
 refine gU
 refine aD rfl ?_
 refine aA
set_option maxHeartbeats 8000000 in
theorem O8 (a b:List Int × Int) (ha:a.1.length<=1000000000000000):Pure Tryz.prog G0 51 [.agg [.sl false (aT a.1),.int .i64 a.2],.agg [.sl false (aT b.1),.int .i64 b.2]] (.int .i64 (jJ a b)):=by
 obtain ⟨a,u⟩:=a
 obtain ⟨b,v⟩:=b
 simp only at ha ⊢
 have h1t:cQ aE (aT a)=true:=bD a
 have h2t:cQ aE (aT b)=true:=bD b
 have hga:∀ (i:Nat) (x:Int),a[i]? =some x->(aT a)[i]? =some [.int .i64 x]:=fun i x h=>by simp [aT,h]
 have hgb:∀ (i:Nat) (x:Int),b[i]? =some x->(aT b)[i]? =some [.int .i64 x]:=fun i x h=>by simp [aT,h]
 have hna:(aT a).length=a.length:=by simp [aT]
 have hnb:(aT b).length=b.length:=by simp [aT]
 generalize aT a=A at h1t hga hna ⊢
 generalize aT b=B at h2t hgb hnb ⊢
 obtain ⟨V,hV⟩:∃ x,x=jJ (a,u) (b,v):=⟨_,rfl⟩
 rw [<- hV]
 simp only [jJ] at hV
 refine aL bX Tryz.func51 rfl (by kernel_rfl) (by simp [Tryz.ntmps51]) (by simp only [aP,aI,h1t,h2t,ai]) (by simp [aI]) ?_
 simp only [Tryz.ntmps51,aK,Nat.reduceAdd]
 refine aF
 refine aJ (α:={i:Nat // i<=a.length/\i<=b.length/\gD a b=gD (a.drop i) (b.drop i)}) (fun i=>[(2,.ptr 0 0 0),(3,.ptr 1 0 0),(5,.int .i64 (i.1:Nat))]) (fun i=>[.cells 0 [.sl false A,.int .i64 u],.cells 0 [.sl false B,.int .i64 v]]) (fun i=>a.length - i.1) ⟨0,az _,az _,rfl⟩ (Weak.ref ⟨?_,.inl ?_⟩) ?_
 .exact aZ
 .exact aZ
 .rintro ⟨i,hi1,hi2,hi3⟩ K hK
  try simp only at hi1 hi2 hi3
  have end':(i=a.length\/i=b.length)->V=if ((A.length:Nat):Int)=((B.length:Nat):Int) then dC u v else dC ((A.length:Nat):Int) ((B.length:Nat):Int):=fun h=>by
   rw [hV,zF hi3 hi1 hi2 h,hna,hnb]
   by_cases he:((a.length:Nat):Int)=((b.length:Nat):Int)
   .rw [if_pos he,if_neg (by rw [he,mU];simp)]
   .rw [if_neg he,if_pos (fun h=>he (dO.1 h))]
  by_cases hlt:i<a.length
  .have c1:decide (((i:Nat):Int)<((A.length:Nat):Int))=true:=by simp;omega
   obtain ⟨x,hx⟩:∃ x,a[i]? =some x:=⟨_,ah hlt⟩
   have gx:=hga i x hx
   have e3:=aO (k:=i) hlt (by omega)
   have hA:i<A.length:=by omega
   by_cases hlb:i<b.length
   .have c2:decide (((i:Nat):Int)<((B.length:Nat):Int))=true:=by simp;omega
    obtain ⟨y,hy⟩:∃ y,b[i]? =some y:=⟨_,ah hlb⟩
    have gy:=hgb i y hy
    have hB:i<B.length:=by omega
    have hd:=D8 hx hy
    clear end'
    refine bB (eT gx gy hA hB c1 c2 e3)
    .have hc:dC x y= -1:=by rw [dC,if_pos (by simp_all)]
     refine aD rfl ?_
     refine aA
     rw [hV,hi3,hd,hc];rfl
    .have hc:dC x y=1:=by rw [dC,if_neg (by simp_all<;>omega),if_pos (by simp_all)]
     refine aD rfl ?_
     refine aA
     rw [hV,hi3,hd,hc];rfl
    .have hc:dC x y=0:=by rw [dC,if_neg (by simp_all<;>omega),if_neg (by simp_all<;>omega)]
     refine hK.go ⟨i+1,hlt,hlb,by rw [hi3,hd,if_neg (by simp [hc])]⟩ aX (by simp only;omega)
     .exact aZ
     .exact aZ
     .intro z hz
      replace hz:=aC hz
      rcases hz with rfl|rfl|rfl<;>first|rfl|rfl
     .refine aS;try exact ⟨by simp only [aG,aP,aI,ac,ab];exact aB h1t,by simp only [aG,aP,aI,ac,ab];exact aB h2t⟩
   .have c2:decide (((i:Nat):Int)<((B.length:Nat):Int))=false:=by simp;omega
    have hv:=end' (.inr (by omega))
    clear end'
    refine bB (bF c1 c2)
    all_goals (refine aD rfl ?_;refine aA;refine congrArg (AV.int .i64) ?_;rw [hv];simp_all [dC]<;>omega)
  .have c1:decide (((i:Nat):Int)<((A.length:Nat):Int))=false:=by simp;omega
   have c2:True:=trivial
   have hv:=end' (.inl (by omega))
   clear end'
   refine bB (bF c1 c2)
   all_goals (refine aD rfl ?_;refine aA;refine congrArg (AV.int .i64) ?_;rw [hv];simp_all [dC]<;>omega)
theorem G6 {x y:Int} (h:x<y) (p q:List Int):gD (x::p) (y::q)= -1:=by rw [gD,dC,if_pos h,if_pos (by decide)]
theorem zG (x:Int) (p q:List Int):gD (x::p) (x::q)=gD p q:=by rw [gD,mU,if_neg (by simp)]
namespace T
theorem pD:∀ (es:List T) (i:Nat) (p:List Int),p∈pathss es i->∃ (j:Int) (q:List Int),p=j::q/\(i:Int)<=j
 | [],_,_,h=>by cases h
 |e::es,i,p,h=>by
  rw [pathss] at h
  rcases bo.1 h with h|h
  .obtain ⟨q,_,rfl⟩:=cf.1 h
   exact ⟨_,q,rfl,Int.le_refl _⟩
  .obtain ⟨j,q,rfl,hj⟩:=pD es (i+1) p h
   exact ⟨j,q,rfl,by omega⟩
mutual
theorem FS:∀ t:T,(paths t).Pairwise fun p q=>gD p q= -1
 |mk k n m es=>by
  rw [paths,List.pairwise_cons]
  refine ⟨fun q hq=>?_,rB es 0⟩
  obtain ⟨j,r,rfl,_⟩:=pD es 0 q hq
  rfl
theorem rB:∀ (es:List T) (i:Nat),(pathss es i).Pairwise fun p q=>gD p q= -1
 | [],_=>List.Pairwise.nil
 |e::es,i=>by
  rw [pathss,List.pairwise_append]
  refine ⟨?_,rB es (i+1),fun p hp q hq=>?_⟩
  .rw [List.pairwise_map]
   exact (FS e).imp fun h=>by rw [zG];exact h
  .obtain ⟨r,_,rfl⟩:=cf.1 hp
   obtain ⟨j,s,rfl,hj⟩:=pD es (i+1) q hq
   exact G6 (by omega) _ _
end
end T
theorem JT (t:T) (p:List Int):∀ (ol:List hI) (k:Nat),∀ x∈fD t p ol k,x.1=p/\k<=x.2
 | [],_,x,h=>by cases h
 |o::ol,k,x,h=>by
  rw [fD] at h
  rcases bo.1 h with h|h
  .have:x=(p,k):=by cases ha:uC o t<;>rw [ha] at h<;>simp [BS] at h;exact h
   rw [this];exact ⟨rfl,ap _⟩
  .obtain ⟨h1,h2⟩:=JT t p ol (k+1) x h
   exact ⟨h1,by omega⟩
theorem xX (t:T) (ol:List hI):∀ (ps:List (List Int)),∀ x∈dJ t ol ps,x.1∈ps
 | [],x,h=>by cases h
 |p::ps,x,h=>by
  rw [dJ] at h
  rcases bo.1 h with h|h
  .cases hs:T.sub t p with
   |none=>rw [hs] at h;cases h
   |some t'=>
    rw [hs] at h
    rw [(JT t' p ol 0 x h).1];exact cy ..
  .exact dn _ (xX t ol ps x h)
theorem M1 (t:T) (ol:List hI):∀ x∈eZ t ol,x.1.length<T.size t:=fun x hx=>by
 unfold eZ at hx
 split at hx
 .cases hx
 .exact (T.paths_sub t x.1 (xX t ol _ x hx)).1
abbrev Si:=List Int × Int
def lK:List Int->List Int->Bool
 | [],_=>true
 |_::_,[]=>false
 |x::a,y::b=>x==y&&lK a b
def mM:List Int->List Int->Bool
 |x::a,y::b=>decide (x<y) || (x==y&&mM a b)
 |_,_=>false
theorem AK (x y:Int):(x<y/\dC x y= -1)\/(x=y/\dC x y=0)\/(y<x/\dC x y=1):=by
 rcases Int.lt_trichotomy x y with h|rfl|h
 .exact .inl ⟨h,by rw [dC,if_pos h]⟩
 .exact .inr (.inl ⟨rfl,mU x⟩)
 .exact .inr (.inr ⟨h,by rw [dC,if_neg (by omega),if_pos h]⟩)
theorem OW:∀ a b:List Int,mM a b=true↔(gD a b<0/\lK a b=false)
 | [],_=>by simp [mM,lK]
 |_::_,[]=>by simp [mM,gD]
 |x::a,y::b=>by
  rw [mM,gD,lK]
  rcases AK x y with ⟨h,e⟩|⟨rfl,e⟩|⟨h,e⟩
  .rw [e,if_pos (by decide)]
   have:(x==y)=false:=by simp;omega
   simp [h,this]
  .rw [e,if_neg (by decide)]
   simp only [Int.lt_irrefl,decide_false,beq_self_eq_true,ac,ej]
   exact OW a b
  .rw [e,if_pos (by decide)]
   have:(x==y)=false:=by simp;omega
   have h2:¬ x<y:=by omega
   simp [h2,this]
theorem P2:∀ a b:List Int,gD a b=0->lK a b=true
 | [],_,_=>rfl
 |_::_,[],h=>by simp [gD] at h
 |x::a,y::b,h=>by
  rw [gD] at h
  rcases AK x y with ⟨g,e⟩|⟨rfl,e⟩|⟨g,e⟩
  .rw [e,if_pos (by decide)] at h;cases h
  .rw [e,if_neg (by decide)] at h
   rw [lK,P2 a b h];simp
  .rw [e,if_pos (by decide)] at h;cases h
theorem PY (a b:Si):(decide (jJ a b >= 0) || lK a.1 b.1)= !mM a.1 b.1:=by
 have h:=OW a.1 b.1
 have h0:=P2 a.1 b.1
 rw [jJ]
 cases hp:lK a.1 b.1 with
 |true=>
  have:mM a.1 b.1=false:=by
   cases hl:mM a.1 b.1 with
   |false=>rfl
   |true=>have:=(h.1 hl).2;rw [hp] at this;cases this
  rw [this,jf];rfl
 |false=>
  have hn:gD a.1 b.1≠0:=fun e=>by rw [h0 e] at hp;cases hp
  rw [if_pos hn,ia]
  cases hl:mM a.1 b.1 with
  |true=>have:=(h.1 hl).1;simp;omega
  |false=>
   have:¬ gD a.1 b.1<0:=fun g=>by rw [h.2 ⟨g,hp⟩] at hl;cases hl
   simp;omega
theorem zE {x y:Int} {a b:List Int}:mM (x::a) (y::b)=true↔(x<y\/(x=y/\mM a b=true)):=by simp [mM]
theorem D4:∀ {a b c:List Int},mM a b=true->mM b c=true->mM a c=true
 | [],_,_,h,_=>by simp [mM] at h
 |_::_,[],_,h,_=>by simp [mM] at h
 |_::_,_::_,[],_,h=>by simp [mM] at h
 |x::a,y::b,z::c,h,g=>by
  rw [zE] at h g ⊢
  rcases h with h|⟨rfl,h⟩
  .rcases g with g|⟨rfl,g⟩
   .exact .inl (by omega)
   .exact .inl h
  .rcases g with g|⟨rfl,g⟩
   .exact .inl g
   .exact .inr ⟨rfl,D4 h g⟩
theorem OU:∀ {a b:List Int},mM a b=true->lK b a=false
 | [],_,h=>by simp [mM] at h
 |_::_,[],h=>by simp [mM] at h
 |x::a,y::b,h=>by
  rw [zE] at h
  rw [lK]
  rcases h with h|⟨rfl,h⟩
  .have:(y==x)=false:=by simp;omega
   rw [this];rfl
  .rw [OU h,da]
def sU:List (List Int)->Bool
 | []=>true
 |a::l=>l.all (mM a)&&sU l
theorem CR:∀ {l:List (List Int)},sU l=true->∀ {i j:Nat} {a b:List Int},i<j->l[i]? =some a->l[j]? =some b->mM a b=true
 | [],_,i,j,a,b,_,hi,_=>by simp at hi
 |x::l,h,0,j+1,a,b,_,hi,hj=>by
  simp only [sU,ae] at h
  obtain rfl:x=a:=by simpa using hi
  exact cl.1 h.1 b (aj (by simpa using hj))
 |x::l,h,i+1,j+1,a,b,hij,hi,hj=>by
  simp only [sU,ae] at h
  exact CR h.2 (i:=i) (j:=j) (by omega) (by simpa using hi) (by simpa using hj)
theorem J4:∀ {l:List (List Int)},(∀ (i:Nat) (a b:List Int),l[i]? =some a->l[i+1]? =some b->mM a b=true)->sU l=true
 | [],_=>rfl
 |x::l,h=>by
  have ih:sU l=true:=J4 fun i a b hi hj=>h (i+1) a b (by simpa using hi) (by simpa using hj)
  simp only [sU,ih,ab]
  cases l with
  |nil=>rfl
  |cons y l=>
   have hxy:=h 0 x y rfl rfl
   refine cl.2 fun z hz=>?_
   rcases bn.1 hz with rfl|hz
   .exact hxy
   .simp only [sU,ae] at ih
    exact D4 hxy (cl.1 ih.1 z hz)
def c6 (M:List Si):Bool:=sU (M.map Prod.fst)&&decide (M.length<=3)
theorem oB {M:List Si} (h:c6 M=true):∀ {i j:Nat} {a b:Si},i<j->M[i]? =some a->M[j]? =some b->mM a.1 b.1=true:=fun {i j a b} hij hi hj=>by
 simp only [c6,ae] at h
 exact CR h.1 hij (by rw [bh,hi];rfl) (by rw [bh,hj];rfl)
theorem L7 {M:List Si} {i j:Nat} {a b:Si} (hij:i<j) (hi:M[i]? =some a) (hj:M[j]? =some b) (h:mM a.1 b.1=false):c6 M=false:=by
 cases hA:c6 M with
 |false=>rfl
 |true=>have:=oB hA hij hi hj;rw [h] at this;cases this
theorem EH {M:List Si} (h:∀ (i:Nat) (a b:Si),M[i]? =some a->M[i+1]? =some b->mM a.1 b.1=true):c6 M=decide (M.length<=3):=by
 rw [c6,J4,ac]
 intro i a b hi hj
 rw [bh] at hi hj
 obtain ⟨a',ha,rfl⟩:=bw.1 hi
 obtain ⟨b',hb,rfl⟩:=bw.1 hj
 exact h i a' b' ha hb
def T.set:T->List Int->T->T
 |_,[],x=>x
 |t,i::p,x=>if 0<=i then (match t.kids[i.toNat]? with
  |some e=>.mk t.kind t.num t.low (t.kids.set i.toNat (T.set e p x))
  |none=>t) else t
theorem T.set_cons {k n m:Int} {es:List T} {j:Nat} {e:T} (p:List Int) (x:T) (h:es[j]? =some e):T.set (.mk k n m es) ((j:Int)::p) x=.mk k n m (es.set j (T.set e p x)):=by
 rw [T.set,if_pos (by omega)]
 simp only [T.kids,ax,h,T.kind,T.num,T.low]
theorem T.sub_some {t t':T} {i:Int} {p:List Int} (h:T.sub t (i::p)=some t'):∃ (j:Nat) (k n m:Int) (es:List T) (e:T),i=j/\t=.mk k n m es/\es[j]? =some e/\T.sub e p=some t':=by
 obtain ⟨k,n,m,es⟩:=t
 rw [T.sub] at h
 split at h
 .rename_i hi
  split at h
  .rename_i e he
   exact ⟨i.toNat,k,n,m,es,e,by omega,rfl,he,h⟩
  .cases h
 .cases h
theorem T.sub_set:∀ {a b:List Int} (t x:T),mM a b=true->T.sub (T.set t a x) b=T.sub t b
 | [],_,_,_,h=>by simp [mM] at h
 |_::_,[],_,_,h=>by simp [mM] at h
 | i :: a, j :: b, .mk k n m es, x, h => by
  rw [zE] at h
  by_cases hi:0<=i
  .obtain ⟨i,rfl⟩:∃ n:Nat,i=n:=⟨i.toNat,by omega⟩
   cases he:es[i]? with
   |none=>rw [T.set,if_pos (by omega)];simp only [T.kids,ax,he]
   |some e=>
    rw [T.set_cons a x he]
    by_cases hj:0<=j
    .obtain ⟨j,rfl⟩:∃ n:Nat,j=n:=⟨j.toNat,by omega⟩
     rw [T.sub,T.sub,if_pos (by omega),if_pos (by omega)]
     simp only [T.kids,ax]
     by_cases hij:i=j
     .subst hij
      rw [ib (aq.1 he).1,he]
      exact T.sub_set e x (by rcases h with h|⟨_,h⟩;(exact absurd h (by omega));exact h)
     .rw [jd hij]
    .rw [T.sub,T.sub,if_neg (by omega),if_neg (by omega)]
  .rw [T.set,if_neg hi]
theorem yK:∀ a b:List Int,a.length<=b.length->lK a b=decide (a=b.take a.length)
 | [],b,_=>by simp [lK]
 |_::_,[],h=>by simp at h
 |x::a,y::b,h=>by
  rw [lK,yK a b (by simpa using h)]
  by_cases e:x=y
  .simp [e]
  .simp [e]
theorem yL:∀ a b:List Int,b.length<a.length->lK a b=false
 | [],b,h=>by simp at h
 |_::_,[],_=>rfl
 |x::a,y::b,h=>by rw [lK,yL a b (by simpa using h),da]
set_option maxHeartbeats 4000000 in
theorem PN (a b:List Int) (ha:a.length<=1000000000000000):Pure Tryz.prog G0 75 [.sl false (aT a),.sl false (aT b)] (.bool (decide (a=b))):=by
 have h1t:cQ aE (aT a)=true:=bD a
 have h2t:cQ aE (aT b)=true:=bD b
 have hga:∀ (i:Nat) (x:Int),a[i]? =some x->(aT a)[i]? =some [.int .i64 x]:=fun i x h=>by simp [aT,h]
 have hgb:∀ (i:Nat) (x:Int),b[i]? =some x->(aT b)[i]? =some [.int .i64 x]:=fun i x h=>by simp [aT,h]
 have hna:(aT a).length=a.length:=by simp [aT]
 have hnb:(aT b).length=b.length:=by simp [aT]
 generalize aT a=A at h1t hga hna ⊢
 generalize aT b=B at h2t hgb hnb ⊢
 obtain ⟨V,hV⟩:∃ x,x=decide (a=b):=⟨_,rfl⟩
 rw [<- hV]
 refine aL bX Tryz.func75 rfl (by kernel_rfl) (by simp [Tryz.ntmps75]) (by simp only [aP,aI,h1t,h2t,ai]) (by simp [aI]) ?_
 simp only [Tryz.ntmps75,aK,Nat.reduceAdd]
 by_cases hl:a.length=b.length
 .have c0:(((A.length:Nat):Int) != ((B.length:Nat):Int))=false:=by simp;omega
  refine aR c0
  refine aJ (α:={i:Nat // i<=a.length/\a.take i=b.take i}) (fun i=>[(0,.sl false A),(1,.sl false B),(12,.int .i64 (A.length:Nat)),(13,.int .i64 (i.1:Nat))]) (fun i=>[]) (fun i=>a.length - i.1) ⟨0,az _,rfl⟩ (Weak.ref ⟨?_,.inl ?_⟩) ?_
  .exact aZ
  .exact aZ
  .rintro ⟨i,hi,hti⟩ K hK
   try simp only at hi hti
   by_cases hlt:i<a.length
   .have c1:decide (((i:Nat):Int)<((A.length:Nat):Int))=true:=by simp;omega
    obtain ⟨x,hx⟩:∃ x,a[i]? =some x:=⟨_,ah hlt⟩
    obtain ⟨y,hy⟩:∃ y,b[i]? =some y:=⟨_,ah (by omega)⟩
    have gx:=hga i x hx
    have gy:=hgb i y hy
    have hA:i<A.length:=by omega
    have hB:i<B.length:=by omega
    have e3:=aO (k:=i) hlt (by omega)
    by_cases hxy:x=y
    .subst hxy
     have c3:(x != x)=false:=by simp
     have c4:(x==x)=true:=by simp
     refine gT (f7 gx gy hA hB c1 c3 c4 e3)
     refine hK.go ⟨i+1,hlt,by rw [dh,dh,hti,hx,hy]⟩ aX (by simp only;omega)
     .exact aZ
     .exact aZ
     .intro z hz
      replace hz:=aC hz
      rcases hz with rfl|rfl|rfl|rfl<;>first|rfl|(simp only [aI];first|exact aB h1t|exact aB h2t)
     .refine aS;try exact rfl
    .have c3:(x != y)=true:=by simp [hxy]
     have c4:(x==y)=false:=by simp [hxy]
     refine gT (f7 gx gy hA hB c1 c3 c4 e3)
     refine aD rfl ?_
     refine aA
     rw [hV,decide_eq_false]
     intro e
     rw [e,hy] at hx
     cases hx
     exact hxy rfl
   .have c1:decide (((i:Nat):Int)<((A.length:Nat):Int))=false:=by simp;omega
    refine bB c1
    refine aD rfl ?_
    refine aA
    rw [hV,decide_eq_true]
    rw [bx (by omega),bx (by omega)] at hti
    exact hti
 .have c0:(((A.length:Nat):Int) != ((B.length:Nat):Int))=true:=by simp;omega
  refine bB c0
  refine aD rfl ?_
  refine aA
  rw [hV,decide_eq_false]
  exact fun e=>hl (by rw [e])
set_option maxHeartbeats 4000000 in
theorem aAp (a b:List Int) (ha:a.length<=1000000000000000):Pure Tryz.prog G0 107 [.sl false (aT a),.sl false (aT b)] (.bool (decide (a=b))):=by
 have h1t:cQ aE (aT a)=true:=bD a
 have h2t:cQ aE (aT b)=true:=bD b
 have hga:∀ (i:Nat) (x:Int),a[i]? =some x->(aT a)[i]? =some [.int .i64 x]:=fun i x h=>by simp [aT,h]
 have hgb:∀ (i:Nat) (x:Int),b[i]? =some x->(aT b)[i]? =some [.int .i64 x]:=fun i x h=>by simp [aT,h]
 have hna:(aT a).length=a.length:=by simp [aT]
 have hnb:(aT b).length=b.length:=by simp [aT]
 generalize aT a=A at h1t hga hna ⊢
 generalize aT b=B at h2t hgb hnb ⊢
 obtain ⟨V,hV⟩:∃ x,x=decide (a=b):=⟨_,rfl⟩
 rw [<- hV]
 refine aL bX Tryz.func107 rfl (by kernel_rfl) (by simp [Tryz.ntmps107]) (by simp only [aP,aI,h1t,h2t,ai]) (by simp [aI]) ?_
 simp only [Tryz.ntmps107,aK,Nat.reduceAdd]
 by_cases hl:a.length=b.length
 .have c0:(((A.length:Nat):Int) != ((B.length:Nat):Int))=false:=by simp;omega
  refine aR c0
  refine aJ (α:={i:Nat // i<=a.length/\a.take i=b.take i}) (fun i=>[(0,.sl false A),(1,.sl false B),(5,.int .i64 (i.1:Nat))]) (fun i=>[]) (fun i=>a.length - i.1) ⟨0,az _,rfl⟩ (Weak.ref ⟨?_,.inl ?_⟩) ?_
  .exact aZ
  .exact aZ
  .rintro ⟨i,hi,hti⟩ K hK
   try simp only at hi hti
   by_cases hlt:i<a.length
   .have c1:decide (((i:Nat):Int)<((A.length:Nat):Int))=true:=by simp;omega
    obtain ⟨x,hx⟩:∃ x,a[i]? =some x:=⟨_,ah hlt⟩
    obtain ⟨y,hy⟩:∃ y,b[i]? =some y:=⟨_,ah (by omega)⟩
    have gx:=hga i x hx
    have gy:=hgb i y hy
    have hA:i<A.length:=by omega
    have hB:i<B.length:=by omega
    have e3:=aO (k:=i) hlt (by omega)
    by_cases hxy:x=y
    .subst hxy
     have c3:(x != x)=false:=by simp
     have c4:(x==x)=true:=by simp
     refine gT (f7 gx gy hA hB c1 c3 c4 e3)
     refine hK.go ⟨i+1,hlt,by rw [dh,dh,hti,hx,hy]⟩ aX (by simp only;omega)
     .exact aZ
     .exact aZ
     .intro z hz
      replace hz:=aC hz
      rcases hz with rfl|rfl|rfl<;>first|rfl|(simp only [aI];first|exact aB h1t|exact aB h2t)
     .refine aS;try exact rfl
    .have c3:(x != y)=true:=by simp [hxy]
     have c4:(x==y)=false:=by simp [hxy]
     refine gT (f7 gx gy hA hB c1 c3 c4 e3)
     refine aD rfl ?_
     refine aA
     rw [hV,decide_eq_false]
     intro e
     rw [e,hy] at hx
     cases hx
     exact hxy rfl
   .have c1:decide (((i:Nat):Int)<((A.length:Nat):Int))=false:=by simp;omega
    refine bB c1
    refine aD rfl ?_
    refine aA
    rw [hV,decide_eq_true]
    rw [bx (by omega),bx (by omega)] at hti
    exact hti
 .have c0:(((A.length:Nat):Int) != ((B.length:Nat):Int))=true:=by simp;omega
  refine bB c0
  refine aD rfl ?_
  refine aA
  rw [hV,decide_eq_false]
  exact fun e=>hl (by rw [e])
theorem Z1 (a b:List Int) (ha:a.length<=1000000000000000):Pure Tryz.prog G0 74 [.sl false (aT a),.sl false (aT b)] (.bool (lK a b)):=by
 have hp:=yK a b
 have hq:=yL a b
 have ke:=PN a (b.take a.length) ha
 have htk:(aT b).take a.length=aT (b.take a.length):=by simp [aT,List.map_take]
 have hsl:(aT b).all (fun e=>decide (e.length=1))=true:=by simp [aT]
 have h1t:cQ aE (aT a)=true:=bD a
 have h2t:cQ aE (aT b)=true:=bD b
 have hga:∀ (i:Nat) (x:Int),a[i]? =some x->(aT a)[i]? =some [.int .i64 x]:=fun i x h=>by simp [aT,h]
 have hgb:∀ (i:Nat) (x:Int),b[i]? =some x->(aT b)[i]? =some [.int .i64 x]:=fun i x h=>by simp [aT,h]
 have hna:(aT a).length=a.length:=by simp [aT]
 have hnb:(aT b).length=b.length:=by simp [aT]
 generalize aT a=A at h1t hga hna ke ⊢
 generalize aT b=B at h2t hgb hnb htk hsl ⊢
 have h3t:cQ aE (aT (b.take a.length))=true:=bD _
 generalize aT (b.take a.length)=C at ke htk h3t
 rw [<- hna] at htk
 generalize lK a b=V at hp hq ⊢
 refine aL bX Tryz.func74 rfl (by kernel_rfl) (by simp [Tryz.ntmps74]) (by simp only [aP,aI,h1t,h2t,ai]) (by simp [aI]) ?_
 simp only [Tryz.ntmps74,aK,Nat.reduceAdd]
 by_cases hle:a.length<=b.length
 .have c0:decide (((A.length:Nat):Int)<=((B.length:Nat):Int))=true:=by simp;omega
  have c1:A.length<=B.length:=by omega
  rw [<- hp hle] at ke
  repeat' (first|(refine cC ?_;simp only [wS,simprocAttr,c0,htk,c1,hsl,if_true,decide_true,ac,ab,co,dm])|refine aM|(refine bO bX (ke) ?_;simp only [wS,simprocAttr,c0,htk]))
  refine aD rfl ?_
  refine aA
 .have c0:decide (((A.length:Nat):Int)<=((B.length:Nat):Int))=false:=by simp;omega
  have hv:=hq (by omega)
  refine bB c0
  refine aD rfl ?_
  refine aA
  rw [hv]
theorem IW (a b:List Int) (ha:a.length<=1000000000000000):Pure Tryz.prog G0 73 [.sl false (aT a),.sl false (aT b)] (.bool (lK a b)):=by
 have hp:=yK a b
 have hq:=yL a b
 have ke:=aAp a (b.take a.length) ha
 have htk:(aT b).take a.length=aT (b.take a.length):=by simp [aT,List.map_take]
 have hsl:(aT b).all (fun e=>decide (e.length=1))=true:=by simp [aT]
 have h1t:cQ aE (aT a)=true:=bD a
 have h2t:cQ aE (aT b)=true:=bD b
 have hga:∀ (i:Nat) (x:Int),a[i]? =some x->(aT a)[i]? =some [.int .i64 x]:=fun i x h=>by simp [aT,h]
 have hgb:∀ (i:Nat) (x:Int),b[i]? =some x->(aT b)[i]? =some [.int .i64 x]:=fun i x h=>by simp [aT,h]
 have hna:(aT a).length=a.length:=by simp [aT]
 have hnb:(aT b).length=b.length:=by simp [aT]
 generalize aT a=A at h1t hga hna ke ⊢
 generalize aT b=B at h2t hgb hnb htk hsl ⊢
 have h3t:cQ aE (aT (b.take a.length))=true:=bD _
 generalize aT (b.take a.length)=C at ke htk h3t
 rw [<- hna] at htk
 generalize lK a b=V at hp hq ⊢
 refine aL bX Tryz.func73 rfl (by kernel_rfl) (by simp [Tryz.ntmps73]) (by simp only [aP,aI,h1t,h2t,ai]) (by simp [aI]) ?_
 simp only [Tryz.ntmps73,aK,Nat.reduceAdd]
 by_cases hle:a.length<=b.length
 .have c0:decide (((A.length:Nat):Int)<=((B.length:Nat):Int))=true:=by simp;omega
  have c1:A.length<=B.length:=by omega
  rw [<- hp hle] at ke
  repeat' (first|(refine cC ?_;simp only [wS,simprocAttr,c0,htk,c1,hsl,if_true,decide_true,ac,ab,co,dm])|refine aM|(refine bO bX (ke) ?_;simp only [wS,simprocAttr,c0,htk]))
  refine aD rfl ?_
  refine aA
 .have c0:decide (((A.length:Nat):Int)<=((B.length:Nat):Int))=false:=by simp;omega
  have hv:=hq (by omega)
  refine bB c0
  refine aD rfl ?_
  refine aA
  rw [hv]
def mC (M:List Si):List (List AV):=M.map fun s=>[.sl false (aT s.1),.int .i64 s.2]
def mV (M:List Si):AV:=.agg [.sl false (mC M)]
theorem jA (M:List Si):(mC M).length=M.length:=bp ..
theorem mE {M:List Si} {i:Nat} {s:Si} (h:M[i]? =some s):(mC M)[i]? =some [.sl false (aT s.1),.int .i64 s.2]:=by rw [mC,bh,h];rfl
theorem cX:∀ M:List Si,cQ aE (mC M)=true
 | []=>rfl
 |s::M=>by
  have:=cX M
  have h:cQ aE (aT s.1)=true:=bD _
  simp only [mC,ay,cQ,aP,aI,h,ai,ac]
  exact this
set_option maxHeartbeats 4000000 in
theorem Q4 (M:List Si) (hM:M.length<=1000000000000000) (hp:∀ s∈M,s.1.length<=1000000000000000):Pure Tryz.prog G0 39 [mV M] (.bool (c6 M)):=by
 have hno:=@L7 M
 have hyes:=@EH M
 have ht:=cX M
 have hn:=jA M
 have hg:=fun (i:Nat) (s:Si)=>mE (M:=M) (i:=i) (s:=s)
 obtain ⟨V,hV⟩:∃ x,x=c6 M:=⟨_,rfl⟩
 rw [<- hV]
 rw [<- hV] at hno hyes
 simp only [mV]
 generalize mC M=MC at ht hn hg ⊢
 refine aL bX Tryz.func39 rfl (by kernel_rfl) (by simp [Tryz.ntmps39]) (by simp only [aP,aI,ht,ai]) (by simp [aI]) ?_
 simp only [Tryz.ntmps39,aK,Nat.reduceAdd]
 refine aF
 refine aJ (α:={i:Nat // 1<=i/\(i<=M.length\/i=1)/\∀ (j:Nat) (x y:Si),j+1<i->M[j]? =some x->M[j+1]? =some y->mM x.1 y.1=true}) (fun i=>[(1,.ptr 0 0 0),(3,.fn (.func 74) [] []),(4,.int .i64 (i.1:Nat))]) (fun i=>[.cells 0 [.sl false MC]]) (fun i=>M.length - i.1) ⟨1,ap _,.inr rfl,fun j x y h=>by omega⟩ (Weak.ref ⟨?_,.inl ?_⟩) ?_
 .exact aZ
 .exact aZ
 .rintro ⟨i,hi1,hi2,hlts⟩ K hK
  try simp only at hi1 hi2 hlts
  by_cases hlt:i<M.length
  .have c1:decide (((i:Nat):Int)<((MC.length:Nat):Int))=true:=by simp;omega
   have e3:=aO (k:=i) hlt (by omega)
   obtain ⟨m,rfl⟩:∃ m,i=m+1:=⟨i - 1,by omega⟩
   have em:IntKind.i64.wrap (((m+1:Nat):Int) - 1)=((m:Nat):Int):=by rw [dP (by omega) (by omega)];omega
   obtain ⟨x,hx⟩:∃ x,M[m]? =some x:=⟨_,ah (by omega)⟩
   obtain ⟨y,hy⟩:∃ y,M[m+1]? =some y:=⟨_,ah hlt⟩
   have gx:=hg m x hx
   have gy:=hg (m+1) y hy
   have hA:m<MC.length:=by omega
   have hB:m+1<MC.length:=by omega
   have kc:=aAm x y (hp x (aj hx))
   have kb:=Z1 x.1 y.1 (hp x (aj hx))
   have hbad:=PY x y
   have hno':=fun h=>hno (i:=m) (j:=m+1) (by omega) hx hy h
   have hnx:mM x.1 y.1=true->∀ (j:Nat) (x y:Si),j+1<m+1+1->M[j]? =some x->M[j+1]? =some y->mM x.1 y.1=true:=fun h j x' y' hj hx' hy'=>by
    by_cases e:j=m
    .subst e
     rw [hx] at hx'
     rw [hy] at hy'
     cases hx'
     cases hy'
     exact h
    .exact hlts j x' y' (by omega) hx' hy'
   generalize mM x.1 y.1=L at hbad hno' hnx
   generalize jJ x y=cv at hbad kc
   generalize lK x.1 y.1=pv at hbad kb
   generalize aT x.1=ix at gx kc kb
   generalize aT y.1=iy at gy kc kb
   cases hd:decide (cv >= 0) with
   |true=>
    have hL:L=false:=by rw [hd] at hbad;simpa using hbad.symm
    have hv:=hno' hL
    repeat' (first|(refine cC ?_;simp only [wS,simprocAttr,gx,gy,hA,hB,c1,e3,em,hd,bf,be])|refine aM|refine iP ?_|fail)
    refine aD rfl ?_
    refine aA
    rw [hv]
   |false=>
    rw [hd,ej] at hbad
    cases pv with
    |true=>
     have hL:L=false:=by simpa using hbad.symm
     have hv:=hno' hL
     repeat' (first|(refine cC ?_;simp only [wS,simprocAttr,gx,gy,hA,hB,c1,e3,em,hd,bf,be])|refine aM|refine iP ?_|fail)
     refine aD rfl ?_
     refine aA
     rw [hv]
    |false=>
     have hL:L=true:=by simpa using hbad.symm
     repeat' (first|(refine cC ?_;simp only [wS,simprocAttr,gx,gy,hA,hB,c1,e3,em,hd,bf,be])|refine aM|refine iP ?_|fail)
     refine hK.go ⟨m+1+1,by omega,.inl hlt,hnx hL⟩ aX (by simp only;omega)
     .exact aZ
     .exact aZ
     .intro z hz
      replace hz:=aC hz
      rcases hz with rfl|rfl|rfl<;>first|rfl|rfl
     .refine aS;try exact (by simp only [aG,aP,aI,ac,ab];exact aB ht)
  .have c1:decide (((i:Nat):Int)<((MC.length:Nat):Int))=false:=by simp;omega
   have hv:=hyes fun j x y hx hy=>hlts j x y (by have:=(aq.1 hy).1;omega) hx hy
   refine bB c1
   refine aD rfl ?_
   refine aA
   rw [hv,hn]
   simp;omega
end Go.Proofs.YtggflhbigolakaaGreatDoor
