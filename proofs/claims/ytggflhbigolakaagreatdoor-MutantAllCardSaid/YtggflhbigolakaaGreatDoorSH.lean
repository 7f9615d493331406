import Derived.Test.YtggflhbigolakaaGreatDoorSD
import Derived.Test.YtggflhbigolakaaGreatDoorVF
set_option linter.unusedVariables false
set_option linter.unusedSimpArgs false
namespace Go.Proofs.YtggflhbigolakaaGreatDoor
open Go.AM
attribute [local irreducible] cG bG bI bL bW bZ aQ aV bN
set_option maxRecDepth 100000
mutual
def T.wd:T->Prop
 | .mk _ _ _ es=>es.length<=2000000000000/\T.wds es
def T.wds:List T->Prop
 | []=>True
 |e::es=>T.wd e/\T.wds es
end
theorem T.wds_mem:∀ {es:List T},T.wds es->∀ e∈es,T.wd e
 | [],_,e,h=>by cases h
 |x::es,hw,e,h=>by
  rw [T.wds] at hw
  rcases bn.1 h with rfl|h
  .exact hw.1
  .exact T.wds_mem hw.2 e h
mutual
theorem T.wd_of:∀ {t:T},T.size t<=2000000000000->T.wd t
 | .mk k n m es,h=>by
  have:=T.len_sizes es
  simp only [T.size] at h
  exact ⟨by omega,T.wds_of (by omega)⟩
theorem T.wds_of:∀ {es:List T},T.sizes es<=2000000000000->T.wds es
 | [],_=>trivial
 |e::es,h=>by
  simp only [T.sizes] at h
  exact ⟨T.wd_of (by omega),T.wds_of (by omega)⟩
end
set_option maxHeartbeats 4000000 in
theorem lF:∀ (N:Nat) (t:T),T.size t<=N->T.wd t->Pure Tryz.prog G0 58 [.agg (T.enc t)] (.agg (T.enc t)):=by
 intro N
 induction N with
 |zero=>intro t h;have:=T.size_pos t;omega
 |succ N ih=>
  intro t ht hwd
  have htr:=T.enc_tree t
  have hwk:=T.wk_enc t
  obtain ⟨k,n,m,es⟩:=t
  have ih2:∀ e∈es,Pure Tryz.prog G0 58 [.agg (T.enc e)] (.agg (T.enc e)):=fun e he=>ih e (by have:=T.size_mem he;simp only [T.size] at ht;omega) (T.wds_mem hwd.2 e he)
  have hwl:es.length<=2000000000000:=hwd.1
  simp only [T.size] at ht
  simp only [T.enc] at htr hwk ⊢
  have hgt:=fun (i:Nat) (e:T)=>T.encs_get (es:=es) (i:=i) (e:=e)
  have hln:=T.encs_len es
  have hte:=T.encs_tree es
  have hE:=T.encs_map es
  have hpt:∀ l:List T,cQ aE (l.map T.enc)=true:=fun l=>by rw [<- T.encs_map];exact T.encs_tree l
  have hps:∀ l:List T,∀ e∈l.map T.enc,e.length=4:=fun l e he=>by
   obtain ⟨y,_,rfl⟩:=cf.1 he
   exact T.enc_len y
  generalize T.encs es=E at hgt hln hte htr hwk hE ⊢
  refine bH bX Tryz.func58 rfl (by kernel_rfl) (by simp [Tryz.ntmps58]) (by simp only [aP,aI,hte,ai]) (by simp only [aI];exact htr) ?_
  simp only [Tryz.ntmps58,aK,Nat.reduceAdd]
  refine aF
  refine aJ (α:={i:Nat // i<=es.length}) (fun i=>[(1,.ptr 0 0 0),(2,.ptr 1 0 0),(9,.sl false E),(10,.int .i64 (E.length:Nat)),(11,.int .i64 (i.1:Nat))]) (fun i=>[.cells 0 [.int .i64 k,.int .i64 n,.int .i64 m,rv 2 (i.1 - 1) 4 ((es.take i.1).map T.enc)],.cells 0 [.int .i64 0,.int .i64 0,.int .i64 0,.sl true []],eX (i.1 - 1) ((es.take i.1).map T.enc)]) (fun i=>es.length - i.1) ⟨0,az _⟩ (cA [] (kp [0,1,2]) bX (fun r hr=>absurd hr (bm r)) ?_ ?_ ?_) ?_
  .simp only [wS,simprocAttr,dL,iD,and_true,true_or]
  .simp only [bg,bz,ab,ae,aI,aB hte];exact ⟨rfl,rfl⟩
  .simp only [wS,simprocAttr,ci,bu,eI,eG]
   simp only [hY,and_true]
   exact ⟨.inr ⟨rfl,rfl,.inr ⟨.inl (by simp),.inr ⟨0,_,_,rfl,rfl,.inl rfl,.inl rfl,.inl rfl,.inr .toRsv,trivial⟩⟩⟩,kr rfl rfl (by simp)⟩
  .rintro ⟨i,hi⟩ K3 hK3
   try simp only at hi
   have hal:((es.take i).map T.enc).length=i:=by rw [bp,cr];omega
   by_cases hlt:i<es.length
   .have c1:decide (((i:Nat):Int)<((E.length:Nat):Int))=true:=by simp;omega
    have hltE:i<E.length:=by omega
    obtain ⟨e,he⟩:∃ e,es[i]? =some e:=⟨_,ah hlt⟩
    have hg:=hgt i e he
    have hce:=ih2 e (aj he)
    have htk:=kH (f:=T.enc) he
    have e3:=aO (k:=i) hlt (by omega)
    obtain ⟨xa,xb,xc,xd,hxe⟩:=aN e
    rw [hxe] at hg hce htk
    have hps':=hps (es.take i)
    have hvv:i=if ((es.take i).map T.enc)=[] then 0 else i - 1+1:=by
     by_cases h0:((es.take i).map T.enc)=[]
     .rw [if_pos h0];rw [h0] at hal;simpa using hal.symm
     .rw [if_neg h0]
      have:i≠0:=fun hz=>h0 (by rw [hz];rfl)
      omega
    repeat' (first|(refine cC ?_;simp only [wS,simprocAttr,hg,hltE,c1,e3,↓bM,↓aY])|refine aM|refine iP ?_|refine cL (v':=i) (es:=[[.int .i64 xa,.int .i64 xb,.int .i64 xc,.sl false xd]]) (by':=48) (by kernel_rfl) aZ hvv hps' (by simp [cW]) (by simp) (by rw [hal];simp only [am];omega) (gR ?_))
    refine hK3.go ⟨i+1,hlt⟩ aX (by simp only;omega)
    .simp only [wS,simprocAttr,↓bM,↓aY];try exact rfl
    .simp only [wS,simprocAttr,cj,htk];try exact rfl
    .intro z hz
     replace hz:=aC hz
     rcases hz with rfl|rfl|rfl|rfl|rfl<;>first|rfl|(simp only [aI];exact aB hte)
    .refine aS;try exact ⟨by simp only [aG,aP,aI,ac,ab];exact bU rfl,rfl,bA (aB (hpt _))⟩
   .have c1:decide (((i:Nat):Int)<((E.length:Nat):Int))=false:=by simp;omega
    obtain rfl:i=es.length:=by omega
    rw [bi] at hal
    repeat' (first|(refine cC ?_;simp only [wS,simprocAttr,bi,c1])|refine sI|fail)
    refine Cont.go (by assumption) ?_
    repeat' (first|(refine cC ?_;simp only [wS,simprocAttr,bi,c1])|refine sI|fail)
    refine Cont.go (by assumption) (cK (cA [2] (kp [0,1]) (l:=[(1,.ptr 0 0 0),(2,.ptr 1 0 0)]) (h:=[.cells 0 [.int .i64 k,.int .i64 n,.int .i64 m,.sl false (es.map T.enc)],.cells 0 [.int .i64 0,.int .i64 0,.int .i64 0,.sl true []]]) bX (fun r hr=>absurd hr (bm r)) ?_ ?_ ?_) ?_)
    .simp only [wS,simprocAttr,dL,iD,and_true,true_or]
    .rfl
    .simp only [wS,simprocAttr,bi]
     simp only [hY,and_true]
     exact ⟨.inr ⟨rfl,by simp only [aG,aP,aI,ac,ab];exact aB (hpt es),.inr ⟨.inl (by simp),.inr ⟨0,_,_,rfl,rfl,.inl rfl,.inl rfl,.inl rfl,.inr (eA (v:=es.length - 1) rfl (by simp) (hps es) (hpt es)),trivial⟩⟩⟩,kr rfl rfl (by simp),rfl⟩
    refine aF
    exact dB (v:=.agg [.int .i64 k,.int .i64 n,.int .i64 m,.sl false (es.map T.enc)]) rfl aZ (by rw [<- hE,AM.wk,hwk])
set_option maxHeartbeats 4000000 in
theorem aDh (t t':T) (p:List Int) (hp:p.length<=2000000000000) (ht:T.size t<=2000000000000) (h:T.sub t p=some t'):Pure Tryz.prog G0 24 [.agg (T.enc t),.sl false (aT p)] (.tup [.agg (T.enc t'),.bool true]):=by
 have htr:=T.enc_tree t
 have htr':=T.enc_tree t'
 have hpr:cQ aE (aT p)=true:=bD p
 have hpl:(aT p).length=p.length:=by simp [aT]
 have hpg:∀ (i:Nat) (x:Int),p[i]? =some x->(aT p)[i]? =some [.int .i64 x]:=fun i x h=>by simp [aT,h]
 generalize aT p=ip at hpr hpl hpg ⊢
 refine aL bX Tryz.func24 rfl (by kernel_rfl) (by simp [Tryz.ntmps24]) (by simp only [aP,aI,htr,hpr,ai]) (by simp only [aP,aI,htr',ai]) ?_
 simp only [Tryz.ntmps24,aK,Nat.reduceAdd]
 obtain ⟨ta,tb,tc,td,hte⟩:=aN t
 rw [hte]
 refine aF
 refine aJ (α:={x:Nat × T // x.1<=p.length/\T.sub x.2 (p.drop x.1)=some t'/\T.size x.2<=2000000000000}) (fun x=>[(2,.ptr 0 0 0),(4,.ptr 1 0 0),(8,.sl false ip),(9,.int .i64 (ip.length:Nat)),(10,.int .i64 (x.1.1:Nat))]) (fun x=>[.cells 0 (T.enc x.1.2),.cells 0 [.int .i64 0,.int .i64 0,.int .i64 0,.sl true []]]) (fun x=>p.length - x.1.1) ⟨(0,t),az _,h,ht⟩ (Weak.ref ⟨?_,.inl ?_⟩) ?_
 .exact aZ
 .simp only [wS,simprocAttr,hte];try exact rfl
 .rintro ⟨⟨i,x⟩,hi,hs,hz⟩ K3 hK3
  simp only at hi hs hz
  have hxt:=T.enc_tree x
  by_cases hlt:i<p.length
  .have c1:decide (((i:Nat):Int)<((ip.length:Nat):Int))=true:=by simp;omega
   have hA:i<ip.length:=by omega
   obtain ⟨q,hq⟩:∃ q,p[i]? =some q:=⟨_,ah hlt⟩
   have hg:=hpg i q hq
   have e3:=aO (k:=i) hlt (by omega)
   have hd:p.drop i=q::p.drop (i+1):=by
    obtain ⟨q1,q2⟩:=aq.1 hq
    rw [cg q1,q2]
   rw [hd,T.sub] at hs
   by_cases hq0:0<=q
   .rw [if_pos hq0] at hs
    obtain ⟨xk,xn,xm,xs⟩:=x
    simp only [T.kids] at hs
    cases hxs:xs[q.toNat]? with
    |none=>rw [hxs] at hs;cases hs
    |some y=>
     rw [hxs] at hs
     have gy:=T.encs_get hxs
     have hql:=(aq.1 hxs).1
     have hyz:T.size y<=2000000000000:=by have:=T.size_mem (aj hxs);simp only [T.size] at hz;omega
     have hxl:=T.encs_len xs
     obtain ⟨qn,rfl⟩:∃ j:Nat,q=j:=⟨q.toNat,by omega⟩
     simp only [ax] at gy hql
     obtain ⟨ya,yb,yc,yd,hye⟩:=aN y
     have hyt:=T.enc_tree y
     rw [hye] at gy
     simp only [T.enc] at hxt ⊢
     generalize T.encs xs=XE at gy hxl hxt
     have c2:decide (((qn:Nat):Int)<0)=false:=by simp
     have c3:decide (((qn:Nat):Int) >= ((XE.length:Nat):Int))=false:=by simp;omega
     have hB:qn<XE.length:=by omega
     repeat' (first|(refine cC ?_;simp only [wS,simprocAttr,hg,hA,gy,hB,c1,c2,c3,e3])|refine aM|fail)
     refine hK3.go ⟨(i+1,y),hlt,hs,hyz⟩ aX (by simp only;omega)
     .exact aZ
     .simp only [wS,simprocAttr,hye];try exact rfl
     .intro z hz
      replace hz:=aC hz
      rcases hz with rfl|rfl|rfl|rfl|rfl<;>first|rfl|(simp only [aI];exact aB hpr)
     .refine aS;try exact ⟨bE (T.enc_tree _),rfl⟩
   .rw [if_neg hq0] at hs;cases hs
  .have c1:decide (((i:Nat):Int)<((ip.length:Nat):Int))=false:=by simp;omega
   obtain rfl:x=t':=by
    rw [show i=p.length by omega,du,T.sub] at hs
    injection hs
   have kc:=lF _ x (ap _) (T.wd_of hz)
   obtain ⟨xa,xb,xc,xd,hxe⟩:=aN x
   rw [hxe] at kc ⊢
   refine c7 c1
   refine bK (v:=.agg [.int .i64 xa,.int .i64 xb,.int .i64 xc,.sl false xd]) rfl ?_ ?_
   .refine aA
   .refine aA
    rw [hxe]
def H4 (cv:Int) (out:T):Option T:=if cv=0 then none else some out
def T.app (nm:ByteArray) (f p:T) (b:Int) (t:T):Option T:=if hJ nm f p b=true then (match T.mat f t true [] with
  |(true,mp)=>H4 (T.cmp (T.put mp t.num p) t) (T.put mp t.num p)
  |(false,_)=>none) else none
def gG:Option T->AV
 |some x=>.tup [.agg (T.enc x),.bool true]
 |none=>.tup [.agg [.int .i64 0,.int .i64 0,.int .i64 0,.sl false []],.bool false]
theorem mZ (r:Option T):aI aE (gG r)=true:=by cases r<;>simp only [gG,aI,aP,cQ,T.enc_tree,ai]
theorem lP {nm:ByteArray} {f p:T} {b:Int} (h:hJ nm f p b=true):T.size p<=32:=by
 simp only [hJ,xT,ae,decide_eq_true_eq] at h
 exact h.2.2.2.2.1.1
set_option maxHeartbeats 8000000 in
theorem H2 (nm:ByteArray) (f p:T) (b:Int) (hf:T.size f<=1000000000000) (hp:T.size p<=1000000000000) (t:T) (ht:T.size t<=1000000000000):Pure Tryz.prog G0 25 [.agg (sF nm f p b),.agg (T.enc t)] (gG (T.app nm f p b t)):=by
 have kv:=WZ nm f p b hf hp
 have ho:=jL nm f p b
 have h2t:=T.enc_tree t
 have km:=fun rows h3=>aCj _ (ap _) f hf t ht true [] (fun y hy=>by cases hy) rows h3
 have hg:=T.mat_good f t true [] ht (fun y hy=>by cases hy)
 obtain ⟨res,hres⟩:∃ r,r=T.app nm f p b t:=⟨_,rfl⟩
 have hrt:=mZ res
 have hvs:hJ nm f p b=true->T.size p<=32:=lP
 unfold T.app at hres
 rw [show T.app nm f p b t=res from hres.symm]
 generalize hJ nm f p b=V at kv hres hvs
 have hps:T.size (T.put (T.mat f t true []).2 t.num p)<=T.size p*1000000000000:=T.put_size hg (by decide) _ _
 have kp:∀ (ck cn cm:Int) (CE:List (List AV)),T.enc t=[.int .i64 ck,.int .i64 cn,.int .i64 cm,.sl false CE]->∀ rows:Nat->ARow,rows 1=.cells 0 [.int .i64 ck,.int .i64 cn,.int .i64 cm,.sl false CE]->rows 3=cV (T.mat f t true []).2->rows 4=.cells 0 [.omp 3]->rows 5=.cells 0 [.fn (.func 61) [] [.ptr 4 0 0,.ptr 1 0 0,.ptr 5 0 0]]->
   c8 Tryz.prog G0 61 [.agg (T.enc p),.ptr 4 0 0,.ptr 1 0 0,.ptr 5 0 0] rows [1,3,4,5] ⟨.agg (T.enc (T.put (T.mat f t true []).2 cn p)),[]⟩:=fun ck cn cm CE he rows h1 h3 h4 h5=>
  aAz _ (ap _) p hp _ hg ck cn cm CE (by rw [he] at h2t;simpa only [aP,aI,ac,ab] using h2t) rows h1 h3 h4 h5
 have kc:=fun h=>SR 100000000000000000 (T.put (T.mat f t true []).2 t.num p) t h (ap _)
 rcases hm:T.mat f t true [] with ⟨ok,mp⟩
 rw [hm] at km hg hps kp kc
 simp only [hm] at hres
 simp only at hps kp kc
 obtain ⟨tk,tn,tm,ts⟩:=t
 have kp:=kp tk tn tm (T.encs ts) rfl
 simp only [T.num] at hps kc hres
 obtain ⟨fk,fn,fm,fs⟩:=f
 obtain ⟨pk,pn,pm,ps⟩:=p
 clear hm
 simp only [sF,T.enc,ar,ba] at ho h2t kv km kp kc ⊢
 generalize T.encs fs=FE at ho kv km ⊢
 generalize T.encs ps=PE' at ho kv kp ⊢
 generalize T.encs ts=TE at h2t km kp kc ⊢
 refine bH bX Tryz.func25 rfl (by kernel_rfl) (by simp [Tryz.ntmps25]) (by simp only [aP,aI,ac,ab,ae] at ho h2t ⊢;exact ⟨ho,h2t⟩) (by exact hrt) ?_
 simp only [Tryz.ntmps25,aK,Nat.reduceAdd]
 have e0:ARow.map [] []=cV []:=rfl
 cases V with
 |false=>
  simp only [aw,if_false] at hres
  refine jI
  refine bK (v:=.agg [.int .i64 0,.int .i64 0,.int .i64 0,.sl true []]) rfl ?_ ?_
  .refine aA
  .refine aA
   rw [hres];rfl
 |true=>
  have hp32:=hvs rfl
  cases ok with
  |false=>
   simp only [if_true] at hres
   repeat' (first|(refine cC ?_;simp only [wS,simprocAttr,bf,be])|refine aM|refine iP ?_|refine cM (km _ aZ) (gR ?_))
   refine bK (v:=.agg [.int .i64 0,.int .i64 0,.int .i64 0,.sl true []]) rfl ?_ ?_
   .refine aA
   .refine aA
    rw [hres];rfl
  |true=>
   simp only [if_true] at hres
   generalize T.put mp tn (.mk pk pn pm ps)=out at hps kc hres kp
   obtain ⟨ok',on,om,oe⟩:=out
   have hot:=T.wk_encs oe
   simp only [T.enc] at kc kp
   have kc:=kc (by omega)
   generalize T.cmp (.mk ok' on om oe) (.mk tk tn tm ts)=cv at kc hres
   repeat' (first|(refine cC ?_;simp only [wS,simprocAttr,bf,be])|refine aM|refine iP ?_|refine cM (km _ aZ) (gR ?_)|refine cM (kp _ aZ aZ aZ aZ) (gR ?_))
   .rw [H4,if_pos (by simp_all)] at hres
    refine bK (v:=.agg [.int .i64 0,.int .i64 0,.int .i64 0,.sl true []]) rfl ?_ ?_
    .refine aA
    .refine aA
     rw [hres];rfl
   .rw [H4,if_neg (by simp_all)] at hres
    refine bK (v:=.agg [.int .i64 ok',.int .i64 on,.int .i64 om,.sl false (T.encs oe)]) rfl ?_ ?_
    .refine aA
    .refine aA
     rw [hres]
     simp only [gG,T.enc,AM.wk,wkL,gS,hot]
theorem AL (p:List Int) (hl:p.length<=1000000000000):Pure Tryz.prog G0 68 [.sl false (aT p)] (.sl false (aT p)):=by
 have ht:cQ aE (aT p)=true:=bD p
 have h1:∀ e∈aT p,e.length=1:=fun e he=>by
  obtain ⟨x,_,rfl⟩:=cf.1 he
  rfl
 have hall:(aT p).all (fun e=>decide (e.length=1))=true:=cl.2 fun e he=>by simpa using h1 e he
 have hpl:(aT p).length=p.length:=by simp [aT]
 have hwk:AM.wk (.sl false (aT p))=.sl false (aT p):=by
  have:=J1 [p]
  simp only [PE,ay,bu,wkL,de,and_true] at this
  exact this
 by_cases hp:p=[]
 .subst hp
  exact E4
 .have hne:aT p≠[]:=fun h=>hp (by have:=hpl;rw [h] at this;exact cu this.symm)
  generalize aT p=ip at ht h1 hall hpl hwk hne ⊢
  refine aL bX Tryz.func68 rfl (by kernel_rfl) (by simp [Tryz.ntmps68]) (by simp only [aP,aI,ht,ai]) (by simp only [aI];exact ht) ?_
  simp only [Tryz.ntmps68,aK,Nat.reduceAdd]
  have hem:ip.isEmpty=false:=by simpa using hne
  have hpos:0<ip.length:=fh.2 hne
  refine jH ?_
  refine f8 hem
  refine fO (sz:=1) (by':=8) (mm:=ip.length) (new:=ip.flatten) (es:=[]) (by kernel_rfl) ?hb (by simp) (nH hall) (by omega) (by simp only [ak];omega) ?_
  case hb=>refine aA;try exact rfl
  refine aA
  refine aF
  refine ⟨_,OH [] bX (t:=2) (r:=0) (ver:=0) (m:=ip.length) (sz:=1) (full:=false) (es:=ip) (cs:=ip.flatten) lQ aZ (by rw [bx];rw [dE h1];exact ap _) rfl h1 ht trivial (by simp),aD rfl ?_⟩
  refine aA
abbrev hI:=ByteArray × T × T × Int
def eE (o:hI):List AV:=sF o.1 o.2.1 o.2.2.1 o.2.2.2
def aCH (o:hI):Prop:=T.size o.2.1<=1000000000000/\T.size o.2.2.1<=1000000000000
def uC (o:hI) (t:T):Option T:=T.app o.1 o.2.1 o.2.2.1 o.2.2.2 t
def BS (p:List Int) (k:Nat):Option T->List (List Int × Nat)
 |some _=>[(p,k)]
 |none=>[]
def fD (t:T) (p:List Int):List hI->Nat->List (List Int × Nat)
 | [],_=>[]
 |o::ol,k=>BS p k (uC o t)++fD t p ol (k+1)
def dJ (t:T) (ol:List hI):List (List Int)->List (List Int × Nat)
 | []=>[]
 |p::ps=>(match T.sub t p with|some t'=>fD t' p ol 0|none=>[])++dJ t ol ps
def eZ (t:T) (ol:List hI):List (List Int × Nat):=if 24<ol.length then [] else dJ t ol (T.paths t)
def SE (l:List (List Int × Nat)):List (List AV):=l.map fun x=>[.sl false (aT x.1),.int .i64 (x.2:Nat)]
theorem dH:∀ ol:List hI,cQ aE (ol.map eE)=true
 | []=>rfl
 |o::ol=>by simp only [ay,cQ,eE,jL,dH ol,ai]
theorem kF:∀ l:List (List Int × Nat),cQ aE (SE l)=true
 | []=>rfl
 |x::l=>by
  have h:=kF l
  have hx:cQ aE (aT x.1)=true:=bD x.1
  simp only [SE,ay,cQ,aP,aI,hx,ac] at h ⊢
  exact h
theorem Q7 (l:List (List Int × Nat)):∀ e∈SE l,e.length=2:=fun e he=>by
 obtain ⟨x,_,rfl⟩:=cf.1 he
 rfl
theorem NM (l:List (List Int × Nat)):(SE l).length=l.length:=bp ..
theorem WG (a b:List (List Int × Nat)):SE (a++b)=SE a++SE b:=dq ..
theorem JV (t:T) (p:List Int):∀ (a b:List hI) (k:Nat),fD t p (a++b) k=fD t p a k++fD t p b (k+a.length)
 | [],b,k=>by simp [fD]
 |o::a,b,k=>by
  rw [ar,fD,fD,JV t p a b (k+1),af,bj,show k+1+a.length=k+(a.length+1) by omega]
theorem DE {t:T} {p:List Int} {ol:List hI} {j:Nat} {o:hI} (h:ol[j]? =some o):fD t p (ol.take (j+1)) 0=fD t p (ol.take j) 0++BS p j (uC o t):=by
 have hj:=(aq.1 h).1
 rw [dh,h,JV]
 simp only [Option.toList_some,fD,br,cr,cp,jn (by omega:j<=ol.length)]
theorem tH (t:T) (p:List Int):∀ (ol:List hI) (k:Nat),(fD t p ol k).length<=ol.length
 | [],_=>by simp [fD]
 |o::ol,k=>by
  have:=tH t p ol (k+1)
  rw [fD,an,af]
  have h:(BS p k (uC o t)).length<=1:=by cases uC o t<;>simp [BS]
  omega
theorem xZ (t:T) (ol:List hI):∀ (a b:List (List Int)),dJ t ol (a++b)=dJ t ol a++dJ t ol b
 | [],b=>by simp [dJ]
 |p::a,b=>by rw [ar,dJ,dJ,xZ t ol a b,bj]
theorem vG {t t':T} {ol:List hI} {ps:List (List Int)} {i:Nat} {p:List Int} (h:ps[i]? =some p) (h2:T.sub t p=some t'):dJ t ol (ps.take (i+1))=dJ t ol (ps.take i)++fD t' p ol 0:=by
 rw [dh,h,xZ]
 simp only [Option.toList_some,dJ,h2,br]
theorem nI (t:T) (ol:List hI):∀ ps:List (List Int),(dJ t ol ps).length<=ps.length*ol.length
 | []=>by simp [dJ]
 |p::ps=>by
  have h1:=nI t ol ps
  rw [dJ,an,af,eh,Nat.one_mul]
  have h2:(match T.sub t p with|some t'=>fD t' p ol 0|none=>[]).length<=ol.length:=by
   split
   .exact tH _ _ _ _
   .simp
  omega
theorem vv {app:List (List AV)} {e:List AV}:(app++[e]).length - 1=if app=[] then 0 else app.length - 1+1:=by
 by_cases h:app=[]
 .rw [if_pos h,h];rfl
 .have:=fh.2 h
  rw [if_neg h,an,am];omega
set_option maxHeartbeats 8000000 in
theorem XJ (t : T) (ht : T.size t <= 100000000000) (b : Bool) (ol : List hI) (hops : ∀ o ∈ ol, aCH o) (hol : ol.length <= 1000000000) : Pure Tryz.prog G0 33 [.agg (T.enc t), .sl b (ol.map eE)] (.sl false (SE (eZ t ol))) := by
 have htr:=T.enc_tree t
 have kps:=M9 t ht
 have hOl:(ol.map eE).length=ol.length:=bp ..
 have hOt:=dH ol
 have hOg:∀ (j:Nat) (o:hI),ol[j]? =some o->(ol.map eE)[j]? =some (eE o):=fun j o h=>by rw [bh,h];rfl
 obtain ⟨res,hres⟩:∃ r,r=eZ t ol:=⟨_,rfl⟩
 have hrt:aI aE (.sl false (SE res))=true:=by simp only [aI];exact kF _
 have hwk:AM.wk (.sl false (SE res))=.sl false (SE res):=by
  clear hres hrt
  simp only [AM.wk,AV.sl.injEq,true_and,gS]
  induction res with
  |nil=>rfl
  |cons x l ih=>
   have:=J1 [x.1]
   simp only [PE,ay,bu,wkL,de,and_true] at this
   simp only [SE,ay,wkL,AM.wk,de,and_true] at ih ⊢
   exact ⟨this,ih⟩
 rw [<- hres]
 unfold eZ at hres
 have hpl:=T.paths_len t
 have hsub:=fun (p:List Int) (h:p∈T.paths t)=>T.paths_sub t p h
 have hpg:=fun (i:Nat) (p:List Int) (h:(T.paths t)[i]? =some p)=>yO h
 have hPl:=mD (T.paths t)
 have hPt:=lR (T.paths t)
 generalize T.paths t=ps at kps hres hpl hsub hpg hPl hPt
 generalize hPS:PE ps=PS at kps hpg hPl hPt
 have kat:=fun (p:List Int) (hp:p.length<=1000000000000) (t':T) (h:T.sub t p=some t')=>aDh t t' p (by omega) (by omega) h
 obtain ⟨ta,tb,tc,TE,hte⟩:=aN t
 rw [hte] at htr kps kat ⊢
 generalize ol.map eE=OL at hOl hOt hOg ⊢
 refine bH bX Tryz.func33 rfl (by kernel_rfl) (by simp [Tryz.ntmps33]) (by simp only [aP,aI,ac,ab,ae] at htr ⊢;exact ⟨htr,hOt⟩) (by exact hrt) ?_
 simp only [Tryz.ntmps33,aK,Nat.reduceAdd]
 have hTE:cQ aE TE=true:=by simpa only [aP,aI,ac,ab] using htr
 by_cases h24:24<ol.length
 .have c0:decide (((OL.length:Nat):Int) > 24)=true:=by simp;omega
  rw [if_pos h24] at hres
  subst hres
  refine bB c0
  refine aD rfl ?_
  refine aA
  rfl
 .have c0 : decide (((OL.length : Nat) : Int) > 24) = false := by simp; omega
  rw [if_neg h24] at hres
  refine c7 c0
  refine aJ (α:={i:Nat // i<=ps.length}) (fun i=>[(1,.sl b OL),(2,.ptr 0 0 0),(5,rv 1 ((SE (dJ t ol (ps.take i.1))).length - 1) 2 (SE (dJ t ol (ps.take i.1)))),(18,.sl false PS),(19,.int .i64 (PS.length:Nat)),(20,.int .i64 (i.1:Nat))]) (fun i=>[.cells 0 [.int .i64 ta,.int .i64 tb,.int .i64 tc,.sl false TE],eX ((SE (dJ t ol (ps.take i.1))).length - 1) (SE (dJ t ol (ps.take i.1)))]) (fun i=>ps.length - i.1) ⟨0,az _⟩ (cA [] (kp [0,1]) bX (fun r hr=>absurd hr (bm r)) ?_ ?_ ?_) ?_
  .simp only [wS,simprocAttr,dL,iD,and_true,true_or,ci,dJ,SE,bu,eI,hPl,c0];try exact .toRsv
  .simp only [bg,bz,ab,ae,aI,aB hOt,aB hPt,true_and];exact ⟨rfl,bU rfl⟩
  .simp only [wS,simprocAttr,ci,dJ,SE,bu,eG]
   simp only [hY,and_true]
   exact kr rfl (by simp only [aG,aP,aI,ac,ab];exact aB hTE) (by simp)
  .rintro ⟨i,hi⟩ K hK
   try simp only at hi
   by_cases hlt:i<ps.length
   .have c1:decide (((i:Nat):Int)<((PS.length:Nat):Int))=true:=by simp;omega
    obtain ⟨p,hp⟩:∃ p,ps[i]? =some p:=⟨_,ah hlt⟩
    have gp:=hpg i p hp
    have hA:i<PS.length:=by omega
    have e3:=aO (k:=i) hlt (by omega)
    obtain ⟨hpn,t',hs,hts⟩:=hsub p (aj hp)
    have ka:=kat p (by omega) t' hs
    have kcl:=AL p (by omega)
    have htk:=vG (ol:=ol) hp hs
    have hal:=nI t ol (ps.take i)
    have hal2:(ps.take i).length*ol.length<=100000000000*24:=Nat.mul_le_mul (by rw [cr];omega) (by omega)
    have kap:=fun (o:hI) (ho:aCH o)=>H2 o.1 o.2.1 o.2.2.1 o.2.2.2 ho.1 ho.2 t' (by omega)
    obtain ⟨na,nb,nc,NE,hne⟩:=aN t'
    have hnt:=T.enc_tree t'
    rw [hne] at ka kap hnt
    have hipt:cQ aE (aT p)=true:=bD p
    generalize hA0:dJ t ol (ps.take i)=A0 at hal htk ⊢
    have hse:∀ (l:List (List Int × Nat)) (j:Nat),SE (l++[(p,j)])=SE l++[[.sl false (aT p),.int .i64 (j:Nat)]]:=fun l j=>WG _ _
    generalize aT p=ip at gp ka kcl hipt hse
    refine c7 (dV gp hA c1 e3)
    refine aJ (α:={j:Nat // j<=ol.length}) (fun j=>[(1,.sl b OL),(2,.ptr 0 0 0),(5,rv 1 ((SE (A0++fD t' p (ol.take j.1) 0)).length - 1) 2 (SE (A0++fD t' p (ol.take j.1) 0))),(7,.sl false ip),(8,.ptr 2 0 0),(18,.sl false PS),(19,.int .i64 (PS.length:Nat)),(20,.int .i64 (i:Nat)),(30,.sl b OL),(31,.int .i64 (OL.length:Nat)),(32,.int .i64 (j.1:Nat))]) (fun j=>[.cells 0 [.int .i64 ta,.int .i64 tb,.int .i64 tc,.sl false TE],eX ((SE (A0++fD t' p (ol.take j.1) 0)).length - 1) (SE (A0++fD t' p (ol.take j.1) 0)),.cells 0 [.int .i64 na,.int .i64 nb,.int .i64 nc,.sl false NE]]) (fun j=>ol.length - j.1) ⟨0,az _⟩ (Weak.ref ⟨?_,.inl ?_⟩) ?_
    .simp only [wS,simprocAttr,ci,fD,br,c0];try exact rfl
    .simp only [wS,simprocAttr,ci,fD,br];try exact rfl
    .rintro ⟨j,hj⟩ K2 hK2
     try simp only at hj
     have hhl:=tH t' p (ol.take j) 0
     rw [cr] at hhl
     have hAl:(SE (A0++fD t' p (ol.take j) 0)).length<=100000000000*24+24:=by rw [NM,an];omega
     have hAs:=Q7 (A0++fD t' p (ol.take j) 0)
     by_cases hltj:j<ol.length
     .have d1:decide (((j:Nat):Int)<((OL.length:Nat):Int))=true:=by simp;omega
      have hB:j<OL.length:=by omega
      have f3:=aO (k:=j) hltj (by omega)
      obtain ⟨o,ho⟩:∃ o,ol[j]? =some o:=⟨_,ah hltj⟩
      have gh:=hOg j o ho
      have ko:=kap o (hops o (aj ho))
      have hnx:=DE (t:=t') (p:=p) ho
      obtain ⟨nm,f,pu,bk⟩:=o
      obtain ⟨fa,fb,fc,FE,hfe⟩:=aN f
      obtain ⟨pa,pb,pc,PE',hpe⟩:=aN pu
      simp only [eE,sF,hfe,hpe,ar,ba,uC] at gh ko hnx
      generalize T.app nm f pu bk t'=r at ko hnx
      have hAt:=kF (A0++fD t' p (ol.take (j+1)) 0)
      rw [hnx] at hAt
      cases r with
      |none=>
       simp only [BS,br] at hnx hAt
       simp only [gG] at ko
       repeat' (first|(refine cC ?_;simp only [wS,simprocAttr,gh,hB,d1,f3,↓bM,↓aY])|refine aM|refine iP ?_|fail)
       refine hK2.go ⟨j+1,hltj⟩ aX (by simp only;omega)
       .simp only [wS,simprocAttr,hnx];try exact rfl
       .simp only [wS,simprocAttr,hnx];try exact rfl
       .intro z hz
        replace hz:=aC hz
        rcases hz with rfl|rfl|rfl|rfl|rfl|rfl|rfl|rfl|rfl|rfl|rfl<;>first|rfl|(simp only [aI];first|exact aB hOt|exact aB hPt|exact aB hipt|exact bU rfl)
       .refine aS;try exact ⟨by simp only [aG,aP,aI,ac,ab];exact aB hTE,bA (aB (by rw [hnx];exact hAt)),by simp only [aG,aP,aI,ac,ab];exact aB (by simpa only [aP,aI,ac,ab] using hnt)⟩
      |some x=>
       simp only [BS] at hnx hAt
       rw [<- bj] at hAt
       rw [hse] at hAt
       obtain ⟨xa,xb,xc,XE,hxe⟩:=aN x
       simp only [gG,hxe] at ko
       have hnx2:SE (A0++(fD t' p (ol.take j) 0++[(p,j)]))=SE (A0++fD t' p (ol.take j) 0)++[[.sl false ip,.int .i64 (j:Nat)]]:=by rw [<- bj,hse]
       generalize hAP:SE (A0++fD t' p (ol.take j) 0)=AP at hAl hAs hAt hnx2 ⊢
       repeat' (first|(refine cC ?_;simp only [wS,simprocAttr,gh,hB,d1,f3,↓bM,↓aY])|refine aM|refine iP ?_|refine cL (v':=(AP++[[AV.sl false ip,AV.int .i64 (j:Nat)]]).length - 1) (es:=[[.sl false ip,.int .i64 (j:Nat)]]) (by':=32) (by kernel_rfl) aZ vv hAs (by simp [cW]) (by simp) (by simp only [am];omega) (gR ?_))
       refine hK2.go ⟨j+1,hltj⟩ aX (by simp only;omega)
       .simp only [wS,simprocAttr,hnx,hnx2];try exact rfl
       .simp only [wS,simprocAttr,hnx,hnx2];try exact rfl
       .intro z hz
        replace hz:=aC hz
        rcases hz with rfl|rfl|rfl|rfl|rfl|rfl|rfl|rfl|rfl|rfl|rfl<;>first|rfl|(simp only [aI];first|exact aB hOt|exact aB hPt|exact aB hipt|exact bU rfl)
       .refine aS;try exact ⟨by simp only [aG,aP,aI,ac,ab];exact aB hTE,bA (aB (by rw [hnx,hnx2];exact hAt)),by simp only [aG,aP,aI,ac,ab];exact aB (by simpa only [aP,aI,ac,ab] using hnt)⟩
     .have d1:decide (((j:Nat):Int)<((OL.length:Nat):Int))=false:=by simp;omega
      obtain rfl:j=ol.length:=by omega
      rw [bi,<- htk] at hAl ⊢
      refine bB (bF d1 e3)
      refine hK.go ⟨i+1,hlt⟩ aX (by simp only;omega)
      .exact aZ
      .exact aZ
      .intro z hz
       replace hz:=aC hz
       rcases hz with rfl|rfl|rfl|rfl|rfl|rfl<;>first|rfl|(simp only [aI];first|exact aB hOt|exact aB hPt|exact aB hipt|exact bU rfl)
      .refine aS;try exact ⟨by simp only [aG,aP,aI,ac,ab];exact aB hTE,bA (aB (kF _))⟩
   .have c1:decide (((i:Nat):Int)<((PS.length:Nat):Int))=false:=by simp;omega
    obtain rfl:i=ps.length:=by omega
    rw [bi,<- hres]
    have hrs:=Q7 res
    have hrl:=kF res
    refine cP c1
    refine Cont.go (by assumption) ?_
    refine cP c1
    refine Cont.go (by assumption) (cK (cA [1] (kp [0]) (l:=[(5,.sl false (SE res))]) (h:=[.cells 0 [.int .i64 ta,.int .i64 tb,.int .i64 tc,.sl false TE]]) bX (fun r hr=>absurd hr (bm r)) ?_ ?_ ?_) ?_)
    .simp only [wS,simprocAttr,dL,iD,and_true,true_or];exact .inr (eA (v:=(SE res).length - 1) rfl (by simp) hrs hrl)
    .simp only [bg,bz,ab,aI];exact aB hrl
    .refine aA
     simp only [hY,and_true]
     exact ⟨kr rfl (by simp only [aG,aP,aI,ac,ab];exact aB hTE) (by simp),rfl⟩
    refine aF
    refine aD rfl ?_
    simp only [wS,simprocAttr,hwk]
def FE (mp:MP):List (List AV):=mp.map fun x=>.int .i64 x.1::T.enc x.2
theorem qT:∀ mp:MP,cQ aE (FE mp)=true
 | []=>rfl
 |x::mp=>by
  have h:=qT mp
  simp only [FE,ay,cQ,aP,aI,T.enc_tree,ac] at h ⊢
  exact h
theorem ZT (mp:MP):∀ e∈FE mp,e.length=5:=fun e he=>by
 obtain ⟨x,_,rfl⟩:=cf.1 he
 simp [T.enc_len]
theorem WL (mp:MP):(FE mp).length=mp.length:=bp ..
theorem Z9 (mp:MP) (n:Int) (t:T):FE (mp++[(n,t)])=FE mp++[.int .i64 n::T.enc t]:=by simp [FE]
theorem UZ {sz:Nat} {ks:List (List AV)} (h:∀ e∈ks,e.length=sz):∀ {j:Nat} {e:List AV},ks[j]? =some e->ks.flatten.drop (j*sz)=e++ks.flatten.drop ((j+1)*sz):=by
 induction ks with
 |nil=>intro j e he;simp at he
 |cons a ks ih=>
  intro j e he
  have ha:a.length=sz:=h a (by simp)
  cases j with
  |zero=>
   obtain rfl:a=e:=by simpa using he
   rw [cw,Nat.zero_mul,co,cp,Nat.one_mul,<- ha,List.drop_left]
  |succ j=>
   have:=ih (fun x hx=>h x (by simp [hx])) (j:=j) (e:=e) (by simpa using he)
   rw [cw,Nat.succ_mul,Nat.succ_mul,Nat.add_comm (j*sz),Nat.add_comm ((j+1)*sz),<- ha,<- ji,<- ji,List.drop_left,ha]
   exact this
namespace T
mutual
def rmat : T -> T -> Bool -> MP -> Bool × MP × MP
 |mk pk pn pm ps,t,root,mp=>
  if pk=28 then
   if pn<0\/7<pn then (false,mp,mp) else match dG mp pn with
    |some x=>(cmp x t==0,mp,mp)
    |none=>(true,mp++[(pn,t)],mp++[(pn,t)])
  else if pk=t.kind/\pm=t.low/\(pn=t.num\/(root=true/\pn= -100))/\ps.length=t.kids.length then rmats ps t.kids mp else (false,mp,mp)
def rmats:List T->List T->MP->Bool × MP × MP
 |p::ps,e::es,mp=>match rmat p e false mp with
  |(true,mp',_)=>rmats ps es mp'
  |(false,_,mr)=>(false,mp,mr)
 |_,_,mp=>(true,mp,mp)
end
mutual
theorem rmat_mat:∀ (p t:T) (root:Bool) (mp:MP),(rmat p t root mp).1=(mat p t root mp).1/\((mat p t root mp).1=true->(rmat p t root mp).2=((mat p t root mp).2,(mat p t root mp).2))
 |mk pk pn pm ps,t,root,mp=>by
  have h:=yA ps t.kids mp
  rw [rmat,mat]
  split
  .split
   .exact ⟨rfl,fun h=>rfl⟩
   .cases dG mp pn<;>exact ⟨rfl,fun _=>rfl⟩
  .split
   .exact h
   .exact ⟨rfl,fun h=>rfl⟩
theorem yA:∀ (ps es:List T) (mp:MP),(rmats ps es mp).1=(mats ps es mp).1/\((mats ps es mp).1=true->(rmats ps es mp).2=((mats ps es mp).2,(mats ps es mp).2))
 |p::ps,e::es,mp=>by
  obtain ⟨h1,h2⟩:=rmat_mat p e false mp
  rw [rmats,mats]
  rcases hm:mat p e false mp with ⟨ok,mp'⟩
  rcases hr:rmat p e false mp with ⟨ok',a,b⟩
  rw [hm,hr] at h1 h2
  simp only at h1 h2
  subst h1
  cases ok' with
  |true=>
   have:=h2 rfl
   simp only [db] at this
   obtain ⟨rfl,rfl⟩:=this
   exact yA ps es _
  |false=>exact ⟨rfl,fun h=>by cases h⟩
 | [],es,mp=>by cases es<;>simp [rmats,mats]
 |_::_,[],mp=>by simp [rmats,mats]
end
theorem rmats_drop {ps es:List T} {i:Nat} {p e:T} (hp:ps[i]? =some p) (he:es[i]? =some e) (mp:MP):rmats (ps.drop i) (es.drop i) mp=match rmat p e false mp with
  |(true,mp',_)=>rmats (ps.drop (i+1)) (es.drop (i+1)) mp'
  |(false,_,mr)=>(false,mp,mr):=by
 obtain ⟨h1,h2⟩:=aq.1 hp
 obtain ⟨h3,h4⟩:=aq.1 he
 rw [cg h1,cg h3,h2,h4,rmats]
theorem rmat_good {B:Nat} (p t:T) (root:Bool) (mp:MP) (ht:size t<=B) (hm:jZ B mp) (h:(rmat p t root mp).1=true):(rmat p t root mp).2.2=(rmat p t root mp).2.1/\jZ B (rmat p t root mp).2.1:=by
 obtain ⟨h1,h2⟩:=rmat_mat p t root mp
 rw [h] at h1
 rw [h2 h1.symm]
 exact ⟨rfl,mat_good p t root mp ht hm⟩
end T
mutual
theorem T.mat_len:∀ (p t:T) (root:Bool) (mp:MP),(T.mat p t root mp).2.length<=mp.length+T.size p
 | .mk pk pn pm ps,t,root,mp=>by
  have h:=T.mats_len ps t.kids mp
  rw [T.mat,T.size]
  split
  .split
   .simp
   .split
    .simp
    .simp only [an,am];omega
  .split
   .omega
   .simp
theorem T.mats_len:∀ (ps es:List T) (mp:MP),(T.mats ps es mp).2.length<=mp.length+T.sizes ps
 |p::ps,e::es,mp=>by
  have h1:=T.mat_len p e false mp
  rw [T.mats,T.sizes]
  rcases hm:T.mat p e false mp with ⟨ok,mp'⟩
  rw [hm] at h1
  cases ok with
  |true=>have h2:=T.mats_len ps es mp';simp only at h1 h2 ⊢;omega
  |false=>simp only at h1 ⊢;omega
 | [],es,mp=>by cases es<;>simp [T.mats]
 |_::_,[],mp=>by simp [T.mats]
end
theorem T.rmat_len (p t:T) (root:Bool) (mp:MP):(T.rmat p t root mp).1=true->(T.rmat p t root mp).2.1.length<=mp.length+T.size p:=fun h=>by
 obtain ⟨h1,h2⟩:=T.rmat_mat p t root mp
 rw [h] at h1
 rw [h2 h1.symm]
 exact T.mat_len p t root mp
theorem XO (pk pn pm k n m:Int) (ps es:List T) (root:Bool) (mp:MP) (h28:pk≠28):(if pk=k/\pm=m/\(pn=n\/(root=true/\pn= -100))/\ps.length=es.length then T.rmats ps es mp else (false,mp,mp))=
  if (pk != k)=true then (false,mp,mp) else if (pm != m)=true then (false,mp,mp) else if (((ps.length:Nat):Int) != ((es.length:Nat):Int))=true then (false,mp,mp) else if (pn != n)=true then (if root=true then (if (!pn== -100)=true then (false,mp,mp) else T.rmats ps es mp) else (false,mp,mp)) else T.rmats ps es mp:=by
 simp only [beq_iff_eq,decide_eq_true_eq,bne_iff_ne,ne_eq,Bool.not_eq_eq_eq_not,bf,beq_eq_false_iff_ne,Int.natCast_inj]
 by_cases hk:pk=k<;>by_cases hm:pm=m<;>by_cases hl:ps.length=es.length<;>by_cases hn:pn=n<;>by_cases h1:pn= -100<;>cases root<;>simp only [hk,hm,hn,h1,hl,not_true_eq_false,not_false_eq_true,if_true,if_false,true_and,and_true,false_and,and_false,or_true,true_or,or_false,false_or,reduceCtorEq,aw]<;>simp_all
theorem qZ {r v sz:Nat} {app:List (List AV)} (h:app≠[]):rv r v sz app=.osl r v 0 app.length sz false:=if_neg h
theorem mA {v:Nat} {app:List (List AV)} (h:app≠[]):eX v app=.cells v app.flatten:=if_neg h
theorem MM {mp:MP} {i:Nat} {a:Int} {x:T} (h:mp[i]? =some (a,x)) (n:Int):dG (mp.drop i) n=if n=a then some x else dG (mp.drop (i+1)) n:=by
 obtain ⟨h1,h2⟩:=aq.1 h
 rw [cg h1,h2,dG]
def aCG (N:Nat):Prop:=∀ p:T,T.size p<=N->∀ t:T,T.size t<=1000000000000->∀ (root:Bool) (mp:MP),jZ 1000000000000 mp->mp.length+T.size p<=1000000000000->∀ rows:Nat->ARow,rows 3=eX ((FE mp).length - 1) (FE mp)->
 c8 Tryz.prog G0 112 [.agg (T.enc p),.agg (T.enc t),.bool root,rv 3 ((FE mp).length - 1) 5 (FE mp)] rows [3] ⟨.tup [rv 3 ((FE ((T.rmat p t root mp).2.1)).length - 1) 5 (FE ((T.rmat p t root mp).2.1)),.bool (T.rmat p t root mp).1],[(3,eX ((FE ((T.rmat p t root mp).2.2)).length - 1) (FE ((T.rmat p t root mp).2.2)))]⟩
set_option maxHeartbeats 8000000 in
theorem aAu : ∀ N : Nat, N <= 100000000000 -> aCG N := by
 intro N
 induction N with
 |zero=>intro _ p hp;have:=T.size_pos p;omega
 | succ N ih =>
  intro hN p hp t ht root mp hm hml rows h3
  have ih:=ih (by omega)
  have h1t:=T.enc_tree p
  have h2t:=T.enc_tree t
  obtain ⟨pk,pn,pm,ps⟩:=p
  obtain ⟨k,n,m,es⟩:=t
  simp only [T.size] at hp hml
  obtain ⟨res,hres⟩:∃ r,r=T.rmat (.mk pk pn pm ps) (.mk k n m es) root mp:=⟨_,rfl⟩
  rw [<- hres]
  rw [T.rmat] at hres
  simp only [T.kind,T.num,T.low,T.kids] at hres
  have ks:=fun x (h:T.size x<=1000000000000)=>T8 x (.mk k n m es) (by omega)
  have hsn:=Z9 mp pn (.mk k n m es)
  have hFs:=ZT mp
  have hFl:=WL mp
  have hFt:=qT mp
  have hls:=T.len_sizes es
  have hts:=ht
  simp only [T.size] at hts
  have hgA:=fun (i:Nat) (e:T)=>T.encs_get (es:=ps) (i:=i) (e:=e)
  have hgB:=fun (i:Nat) (e:T)=>T.encs_get (es:=es) (i:=i) (e:=e)
  have hnA:=T.encs_len ps
  have hnB:=T.encs_len es
  simp only [T.enc] at h1t h2t ks hsn ⊢
  generalize T.encs ps=A at h1t hgA hnA ⊢
  generalize T.encs es=B at h2t hgB hnB hsn ks ⊢
  have hAt:cQ aE A=true:=by simpa only [aP,aI,ac,ab] using h1t
  have hBt:cQ aE B=true:=by simpa only [aP,aI,ac,ab] using h2t
  refine bT [.dead,.dead,.dead,eX ((FE mp).length - 1) (FE mp)] bX Tryz.func112 rfl (by kernel_rfl) (by simp [Tryz.ntmps112]) ?_ ?_ ?_ ?_ ?_ ?_ ?_
  .intro r hr
   replace hr:=aC hr
   rcases hr with rfl
   .exact h3.symm
  .intro r hr
   match r,hr with
   |0,_=>simp
   |1,_=>simp
   |2,_=>simp
   |3,hr=>exact absurd (by simp) hr
   |r+4,_=>simp
  .simp only [aP,aI,ac,ab,ae];exact ⟨aB hAt,aB hBt,bU (by simp)⟩
  .intro r hr
   replace hr:=aC hr
   rcases hr with rfl
   .rw [h3];exact bA (aB hFt)
  .intro r hr h
   replace hr:=aC hr
   simp only [af,ak] at h
   omega
  .simp
  simp only [Tryz.ntmps112,aK,Nat.reduceAdd,af,ak]
  have post:∀ (s:AS) (v:AV),s.row 3=eX ((FE (res.2.2)).length - 1) (FE (res.2.2))->v=.tup [rv 3 ((FE (res.2.1)).length - 1) 5 (FE (res.2.1)),.bool res.1]->
    (v=(eL.mk (.tup [rv 3 ((FE (res.2.1)).length - 1) 5 (FE (res.2.1)),.bool res.1]) [(3,eX ((FE (res.2.2)).length - 1) (FE (res.2.2)))]).val\/AM.wk v=(eL.mk (.tup [rv 3 ((FE (res.2.1)).length - 1) 5 (FE (res.2.1)),.bool res.1]) [(3,eX ((FE (res.2.2)).length - 1) (FE (res.2.2)))]).val)/\aI (fun r=>[3].contains r) v=true/\∀ r∈[3],s.row r=upd rows [(3,eX ((FE (res.2.2)).length - 1) (FE (res.2.2)))] r/\aG (fun r=>[3].contains r) (s.row r)=true:=fun s v a hv=>by
   refine ⟨.inl hv,?_,fun r hr=>?_⟩
   .rw [hv];simp only [aI,aP,ab];exact bU rfl
   .rw [bd.1 hr,a]
    exact ⟨rfl,bA (aB (qT _))⟩
  by_cases h28:pk=28
  .have e28 : (pk == 28) = true := by simp [h28]
   rw [if_pos h28] at hres
   by_cases h0:pn<0
   .have c1:decide (pn<0)=true:=by simpa using h0
    rw [if_pos (.inl h0)] at hres
    refine bB (bF e28 c1)
    refine eS rfl (post _ _ ?_ ?_)<;>(rw [hres];refine aA;try exact rfl)
   .have c1 : decide (pn < 0) = false := by simpa using h0
    by_cases h7:7<pn
    .have c2:decide (pn > 7)=true:=by simpa using h7
     rw [if_pos (.inr h7)] at hres
     refine bB (eB e28 c1 c2)
     refine eS rfl (post _ _ ?_ ?_)<;>(rw [hres];refine aA;try exact rfl)
    .have c2:decide (pn > 7)=false:=by simpa using h7
     rw [if_neg (by omega)] at hres
     refine aR (eB e28 c1 c2)
     refine aJ (α:={i:Nat // i<=mp.length/\dG mp pn=dG (mp.drop i) pn}) (fun i=>[(3,rv 3 ((FE mp).length - 1) 5 (FE mp)),(4,.ptr 4 0 0),(5,.ptr 5 0 0),(10,.int .i64 (i.1:Nat))]) (fun i=>[.dead,.dead,.dead,eX ((FE mp).length - 1) (FE mp),.cells 0 [.int .i64 pk,.int .i64 pn,.int .i64 pm,.sl false A],.cells 0 [.int .i64 k,.int .i64 n,.int .i64 m,.sl false B]]) (fun i=>mp.length - i.1) ⟨0,az _,by rw [co]⟩ (Weak.ref ⟨?_,.inl ?_⟩) ?_
     .exact aZ
     .exact aZ
     .rintro ⟨i,hi,hlk⟩ K hK
      try simp only at hi hlk
      by_cases hlt:i<mp.length
      .have hne:FE mp≠[]:=fun h=>by rw [h] at hFl;simp at hFl;omega
       have q1:=qZ (r:=3) (v:=(FE mp).length - 1) (sz:=5) hne
       have q2:=mA (v:=(FE mp).length - 1) hne
       obtain ⟨⟨a,x⟩,hx⟩:∃ x,mp[i]? =some x:=⟨_,ah hlt⟩
       have hxf:(FE mp)[i]? =some (.int .i64 a::T.enc x):=by simp only [FE,bh,hx,dv]
       have hf0:=UZ hFs hxf
       have hd:=MM hx pn
       have kx:=ks x (hm _ (aj hx))
       have hfl:(FE mp).flatten.length=(FE mp).length*5:=dE hFs
       obtain ⟨xa,xb,xc,xd,hxe⟩:=aN x
       rw [hxe] at hf0 kx
       have hf1:(FE mp).flatten.drop (i*5+1)=[.int .i64 xa,.int .i64 xb,.int .i64 xc,.sl false xd]++(FE mp).flatten.drop ((i+1)*5):=by
        rw [<- ji,hf0];rfl
       simp only [ar,ba] at hf0 hf1
       have e3:=aO (k:=i) hlt (by omega)
       have c3:decide (((i:Nat):Int)<(((FE mp).length:Nat):Int))=true:=by simp;omega
       have hA:i<(FE mp).length:=by omega
       repeat' (first|(refine cC ?_;simp only [wS,simprocAttr,q1,q2,hf0,hf1,hfl,e3,c3,hA,↓bM,↓aY])|refine aM|refine iP ?_|fail)
       .have ha:pn=a:=by simp_all
        rw [hlk,hd,if_pos ha] at hres
        refine eS rfl (post _ _ ?_ ?_)<;>(rw [hres];simp only [wS,simprocAttr,q1,q2];try exact rfl)
       .have ha:¬ pn=a:=fun h=>by simp_all
        refine hK.go ⟨i+1,hlt,by rw [hlk,hd,if_neg ha]⟩ aX (by simp only;omega)
        .simp only [wS,simprocAttr,q1];try exact rfl
        .simp only [wS,simprocAttr,q2];try exact rfl
        .intro z hz
         replace hz:=aC hz
         rcases hz with rfl|rfl|rfl|rfl<;>first|rfl|(rw [q1];rfl)
        .refine aS;try exact ⟨rfl,rfl,rfl,(by rw [q2];exact dK (aB hFt)),by simp only [aG,aP,aI,ac,ab];exact aB hAt,by simp only [aG,aP,aI,ac,ab];exact aB hBt⟩
      .have c3:decide (((i:Nat):Int)<(((FE mp).length:Nat):Int))=false:=by simp;omega
       have hLn:∀ rows:Nat->ARow,rows 3=eX ((FE mp).length - 1) (FE mp)->uD Tryz.prog 134 (rv 3 ((FE mp).length - 1) 5 (FE mp)) rows=some (.int .i64 ((FE mp).length:Nat)):=fun rows h=>H5 (et:=138) (by kernel_rfl) h
       rw [hlk,show i=mp.length by omega,du,dG] at hres
       have hvv:(FE (mp++[(pn,.mk k n m es)])).length - 1=if FE mp=[] then 0 else (FE mp).length - 1+1:=by rw [hsn];exact vv
       have hnt:=qT (mp++[(pn,.mk k n m es)])
       rw [hsn] at hnt
       repeat' (first|(refine cC ?_;simp only [wS,simprocAttr,↓hLn,c3,↓bM,↓aY])|refine aM|refine cL (v':=(FE (mp++[(pn,.mk k n m es)])).length - 1) (es:=[[.int .i64 pn,.int .i64 k,.int .i64 n,.int .i64 m,.sl false B]]) (by':=56) (by kernel_rfl) aZ hvv hFs (by simp [cW]) (by simp) (by rw [hFl];simp only [am];omega) (gR ?_))
       refine eS rfl (post _ _ ?_ ?_)<;>(rw [hres];simp only [wS,simprocAttr,hsn];try exact rfl)
  .have e28 : (pk == 28) = false := by simp [h28]
   have hq:=XO pk pn pm k n m ps es root mp h28
   rw [if_neg h28] at hres
   replace hq:=hres.trans hq
   clear hres
   cases root
   all_goals repeat' (first|(refine cC ?_;simp only [wS,simprocAttr,e28,hnA,hnB,bf,be,↓bM,↓aY])|refine aM|fail)
   all_goals simp only [*,if_true,if_false,aw] at hq
   all_goals try first
    |(refine eS rfl (post _ _ ?_ ?_)<;>(rw [hq];refine aA;try exact rfl);done)
   all_goals
    have hll:ps.length=es.length:=by
     have:=‹(((ps.length:Nat):Int) != ((es.length:Nat):Int))=false›
     simp at this;omega
    refine aJ (α:={x:Nat × MP // x.1<=es.length/\jZ 1000000000000 x.2/\x.2.length+T.sizes (ps.drop x.1)<=1000000000000/\T.rmats (ps.drop x.1) (es.drop x.1) x.2=res}) (fun x=>[(3,rv 3 ((FE (x.1.2)).length - 1) 5 (FE (x.1.2))),(4,.ptr 4 0 0),(5,.ptr 5 0 0),(11,.int .i64 (x.1.1:Nat))]) (fun x=>[.dead,.dead,.dead,eX ((FE (x.1.2)).length - 1) (FE (x.1.2)),.cells 0 [.int .i64 pk,.int .i64 pn,.int .i64 pm,.sl false A],.cells 0 [.int .i64 k,.int .i64 n,.int .i64 m,.sl false B]]) (fun x=>es.length - x.1.1) ⟨(0,mp),az _,hm,by simp only [co];omega,hq.symm⟩ (Weak.ref ⟨?_,.inl ?_⟩) ?_
    .exact aZ
    .exact aZ
    .clear hq hsn ks hFs hFl hFt
     rintro ⟨⟨i,mi⟩,hi,hgm,hlm,hri⟩ K hK
     simp only at hi hgm hlm hri
     by_cases hlt:i<es.length
     .have c1:decide (((i:Nat):Int)<((B.length:Nat):Int))=true:=by simp;omega
      obtain ⟨x,hx⟩:∃ x,ps[i]? =some x:=⟨_,ah (by omega)⟩
      obtain ⟨y,hy⟩:∃ y,es[i]? =some y:=⟨_,ah hlt⟩
      have gx:=hgA i x hx
      have gy:=hgB i y hy
      have hA:i<A.length:=by omega
      have hB:i<B.length:=by omega
      have e3:=aO (k:=i) hlt (by omega)
      have hd:=T.rmats_drop hx hy mi
      have hdr:T.sizes (ps.drop i)=T.size x+T.sizes (ps.drop (i+1)):=by
       obtain ⟨q1,q2⟩:=aq.1 hx
       rw [cg q1,q2,T.sizes]
      have hsx:T.size x<=N:=by have:=T.size_mem (aj hx);omega
      have hsy:T.size y<=1000000000000:=by have:=T.size_mem (aj hy);simp only [T.size] at ht;omega
      have kc:=fun rows h3=>ih x hsx y hsy false mi hgm (by omega) rows h3
      have hgi:=T.rmat_good x y false mi hsy hgm
      have hle:=T.rmat_len x y false mi
      obtain ⟨xa,xb,xc,xd,hxe⟩:=aN x
      obtain ⟨ya,yb,yc,yd,hye⟩:=aN y
      rw [hxe] at gx kc
      rw [hye] at gy kc
      generalize T.rmat x y false mi=r1 at kc hd hgi hle
      obtain ⟨ok,ma,mb⟩:=r1
      cases ok with
      |true=>
       obtain ⟨hab,hga⟩:=hgi rfl
       have hle:=hle rfl
       simp only at hab hga hle kc hd
       subst hab
       repeat' (first|(refine cC ?_;simp only [wS,simprocAttr,gx,gy,hA,hB,c1,e3,bf,be,↓bM,↓aY])|refine aM|refine cM (kc _ aZ) (gR ?_))
       refine hK.go ⟨(i+1,mb),hlt,hga,by simp only;omega,by rw [<- hri,hd]⟩ aX (by simp only;omega)
       .simp only [wS,simprocAttr,↓bM,↓aY];try exact rfl
       .exact aZ
       .intro z hz
        replace hz:=aC hz
        rcases hz with rfl|rfl|rfl|rfl<;>first|rfl|exact bU rfl
       .refine aS;try exact ⟨rfl,rfl,rfl,bA (aB (qT _)),by simp only [aG,aP,aI,ac,ab];exact aB hAt,by simp only [aG,aP,aI,ac,ab];exact aB hBt⟩
      |false=>
       have hres2:res=(false,mi,mb):=by rw [<- hri,hd]
       repeat' (first|(refine cC ?_;simp only [wS,simprocAttr,gx,gy,hA,hB,c1,e3,bf,be,↓bM,↓aY])|refine aM|refine cM (kc _ aZ) (gR ?_))
       refine eS rfl (post _ _ ?_ ?_)<;>(rw [hres2];refine aA;try exact rfl)
     .have c1:decide (((i:Nat):Int)<((B.length:Nat):Int))=false:=by simp;omega
      have hres2:res=(true,mi,mi):=by
       rw [<- hri,show i=ps.length by omega,du,T.rmats]
       simp
      refine aR c1
      refine eS rfl (post _ _ ?_ ?_)<;>(rw [hres2];refine aA;try exact rfl)
def fU (mp:MP):Int:=mp.foldl (fun m x=>max m x.1) (-1)
def yQ (mp:MP) (N:Nat):List T:=mp.foldl (fun l x=>l.set x.1.toNat x.2) (List.replicate N T.zero)
theorem rR (mp:MP) (a:Int) (x:T):fU (mp++[(a,x)])=max (fU mp) a:=by simp [fU]
theorem CS (mp:MP) (a:Int) (x:T) (N:Nat):yQ (mp++[(a,x)]) N=(yQ mp N).set a.toNat x:=by simp [yQ]
theorem J5 (mp:MP) (N:Nat):(yQ mp N).length=N:=by
 suffices h:∀ (mp:MP) (l:List T),(mp.foldl (fun l x=>l.set x.1.toNat x.2) l).length=l.length by rw [yQ,h,List.length_replicate]
 intro mp
 induction mp with
 |nil=>intro l;rfl
 |cons x mp ih=>intro l;rw [gr,ih,ef]
theorem nS:∀ (mp:MP) (a:Int) (x:T) (n:Int),dG (mp++[(a,x)]) n=match dG mp n with|some y=>some y|none=>if n=a then some x else none
 | [],a,x,n=>by simp [dG]
 |y::mp,a,x,n=>by
  rw [ar,dG,dG]
  split
  .rfl
  .exact nS mp a x n
def vO (mp:MP):Prop:=(∀ x∈mp,0<=x.1/\x.1<=7)/\(-1<=fU mp/\fU mp<=7)/\∀ n x,dG mp n=some x->0<=n/\n<=fU mp/\∀ N:Nat,n<N->(yQ mp N)[n.toNat]? =some x
theorem DL:vO []:=⟨fun x h=>(by cases h),⟨by decide,by decide⟩,fun n x h=>(by cases h)⟩
theorem MY {mp:MP} {a:Int} {x:T} (h:vO mp) (ha:0<=a) (ha7:a<=7) (hn:dG mp a=none):vO (mp++[(a,x)]):=by
 obtain ⟨h1,⟨h2,h3⟩,h4⟩:=h
 refine ⟨fun y hy=>?_,by rw [rR];omega,fun n y hy=>?_⟩
 .rcases bo.1 hy with hy|hy
  .exact h1 y hy
  .rw [bd.1 hy];exact ⟨ha,ha7⟩
 .rw [nS] at hy
  rw [rR]
  cases hl:dG mp n with
  |some z=>
   rw [hl] at hy
   obtain ⟨g1,g2,g3⟩:=h4 n z hl
   have hna:n≠a:=fun e=>by rw [e,hn] at hl;cases hl
   refine ⟨g1,by omega,fun N hN=>?_⟩
   rw [CS,jd (by omega),g3 N hN]
   exact hy
  |none=>
   rw [hl] at hy
   simp only at hy
   split at hy
   .rename_i e
    subst e
    refine ⟨ha,by omega,fun N hN=>?_⟩
    rw [CS,ib (by rw [J5];omega)]
    exact hy
   .cases hy
namespace T
mutual
theorem mat_goodO:∀ (p t:T) (root:Bool) (mp:MP),vO mp->vO (mat p t root mp).2/\(∀ n x,dG mp n=some x->dG (mat p t root mp).2 n=some x)/\((mat p t root mp).1=true->∀ n∈nums p,∃ x,dG (mat p t root mp).2 n=some x)
 |mk pk pn pm ps,t,root,mp,h=>by
  have ih:=y8 ps t.kids mp h
  rw [mat,nums]
  by_cases h28:pk=28
  .rw [if_pos h28,if_pos h28]
   by_cases hr:pn<0\/7<pn
   .rw [if_pos hr];exact ⟨h,fun _ _ h=>h,fun h=>by cases h⟩
   .rw [if_neg hr,if_pos (by omega)]
    cases hl:dG mp pn with
    |some x=>exact ⟨h,fun _ _ h=>h,fun _ n hn=>by rw [bd.1 hn];exact ⟨x,hl⟩⟩
    |none=>
     refine ⟨MY h (by omega) (by omega) hl,fun n x hx=>by simp only [nS,hx],fun _ n hn=>?_⟩
     rw [bd.1 hn]
     exact ⟨t,by simp only [nS,hl,if_true]⟩
  .rw [if_neg h28,if_neg h28]
   split
   .rename_i hc
    exact ⟨ih.1,ih.2.1,ih.2.2 hc.2.2.2⟩
   .exact ⟨h,fun _ _ h=>h,fun h=>by cases h⟩
theorem y8:∀ (ps es:List T) (mp:MP),vO mp->vO (mats ps es mp).2/\(∀ n x,dG mp n=some x->dG (mats ps es mp).2 n=some x)/\(ps.length=es.length->(mats ps es mp).1=true->∀ n∈numss ps,∃ x,dG (mats ps es mp).2 n=some x)
 |p::ps,e::es,mp,h=>by
  obtain ⟨h1,h2,h3⟩:=mat_goodO p e false mp h
  rw [mats,numss]
  rcases hm:mat p e false mp with ⟨ok,mp'⟩
  rw [hm] at h1 h2 h3
  cases ok with
  |true=>
   obtain ⟨g1,g2,g3⟩:=y8 ps es mp' h1
   refine ⟨g1,fun n x hx=>g2 n x (h2 n x hx),fun hl ht n hn=>?_⟩
   rcases bo.1 hn with hn|hn
   .obtain ⟨x,hx⟩:=h3 rfl n hn
    exact ⟨x,g2 n x hx⟩
   .exact g3 (by simpa using hl) ht n hn
  |false=>exact ⟨h1,h2,fun _ h=>by cases h⟩
 | [],es,mp,h=>by
  have:mats [] es mp=(true,mp):=by cases es<;>simp [mats]
  rw [this]
  exact ⟨h,fun _ _ h=>h,fun _ _ n hn=>by cases hn⟩
 |_::_,[],mp,h=>by
  have:∀ p ps,mats (p::ps) [] mp=(true,mp):=fun p ps=>by simp [mats]
  rw [this]
  exact ⟨h,fun _ _ h=>h,fun hl=>by simp at hl⟩
end
mutual
def hok (P:Int->Prop):T->Prop
 |mk k n m es=>if k=28 then P n else MW P es
def MW (P:Int->Prop):List T->Prop
 | []=>True
 |e::es=>hok P e/\MW P es
end
mutual
theorem hok_mono {P Q:Int->Prop} (h:∀ n,P n->Q n):∀ t:T,hok P t->hok Q t
 |mk k n m es,ht=>by
  rw [hok] at ht ⊢
  split
  .rename_i hk;rw [if_pos hk] at ht;exact h n ht
  .rename_i hk;rw [if_neg hk] at ht;exact uT h es ht
theorem uT {P Q:Int->Prop} (h:∀ n,P n->Q n):∀ ts:List T,MW P ts->MW Q ts
 | [],_=>trivial
 |e::es,ht=>⟨hok_mono h e ht.1,uT h es ht.2⟩
end
theorem hoks_mem {P:Int->Prop}:∀ {ts:List T},MW P ts->∀ e∈ts,hok P e
 |e::es,h,x,hx=>by
  rcases bn.1 hx with rfl|hx
  .exact h.1
  .exact hoks_mem h.2 x hx
mutual
theorem fine_hok (root rest:Bool):∀ t:T,fine root rest t=true->hok (fun n=>n∈nums t) t
 |mk k n m es,h=>by
  rw [fine,ae,ae,ae] at h
  obtain ⟨⟨_,h1⟩,_,h2⟩:=h
  rw [hok]
  split
  .rename_i hk
   subst hk
   simp only [decide_true,bf,ej] at h1
   have:=pJ.1 h1
   rw [nums,if_pos rfl,if_pos ⟨this.1,this.2.1⟩]
   exact bd.2 rfl
  .rename_i hk
   have:=DS rest es h2
   rw [nums,if_neg hk]
   exact this
theorem DS (rest:Bool):∀ ts:List T,jN rest ts=true->MW (fun n=>n∈numss ts) ts
 | [],_=>trivial
 |e::es,h=>by
  rw [jN,ae] at h
  exact ⟨hok_mono (fun n hn=>by rw [numss];exact gu _ hn) e (fine_hok rest rest e h.1),uT (fun n hn=>by rw [numss];exact gm _ hn) es (DS rest es h.2)⟩
end
mutual
def rput (l:List T) (nn:Int):T->T
 |mk k n m ps=>if k=28 then (l[n.toNat]?).getD zero else mk k (if n= -100 then nn else n) m (CJ l nn ps)
def CJ (l:List T) (nn:Int):List T->List T
 | []=>[]
 |e::es=>rput l nn e::CJ l nn es
end
theorem rputs_map (l:List T) (nn:Int) (es:List T):CJ l nn es=es.map (rput l nn):=by induction es<;>simp_all [CJ]
mutual
theorem put_rput {mp:MP} {l:List T} (nn:Int):∀ t:T,hok (fun n=>∃ x,dG mp n=some x/\l[n.toNat]? =some x) t->put mp nn t=rput l nn t
 |mk k n m es,h=>by
  rw [hok] at h
  rw [put,rput]
  split
  .rename_i hk
   rw [if_pos hk] at h
   obtain ⟨x,h1,h2⟩:=h
   rw [h1,h2]
  .rename_i hk
   rw [if_neg hk] at h
   rw [yJ nn es h]
theorem yJ {mp:MP} {l:List T} (nn:Int):∀ ts:List T,MW (fun n=>∃ x,dG mp n=some x/\l[n.toNat]? =some x) ts->puts mp nn ts=CJ l nn ts
 | [],_=>rfl
 |e::es,h=>by rw [puts,CJ,put_rput nn e h.1,yJ nn es h.2]
end
end T
theorem QC {nm:ByteArray} {f p:T} {b:Int} (hv:hJ nm f p b=true) {t:T} {mp:MP} (hm:T.mat f t true []=(true,mp)):vO mp/\T.hok (fun n=>∃ x,dG mp n=some x/\(yQ mp (fU mp+1).toNat)[n.toNat]? =some x) p/\T.hok (fun n=>0<=n/\n<=fU mp) p:=by
 obtain ⟨h1,_,h3⟩:=T.mat_goodO f t true [] DL
 rw [hm] at h1 h3
 have h3:=h3 rfl
 simp only at h1 h3
 simp only [hJ,ae] at hv
 have hvis:=hv.2.2.2.2.2
 rw [T.visits_eq] at hvis
 simp only [ae,cl,List.contains_iff_mem] at hvis
 have hfp:=hvis.2.1
 have hin:=hvis.2.2
 have key:T.hok (fun n=>n∈T.nums p) p:=T.fine_hok _ _ p hfp
 refine ⟨h1,T.hok_mono (fun n hn=>?_) p key,T.hok_mono (fun n hn=>?_) p key⟩
 .obtain ⟨x,hx⟩:=h3 n (hin n hn)
  obtain ⟨g1,g2,g3⟩:=h1.2.2 n x hx
  exact ⟨x,hx,g3 _ (by omega)⟩
 .obtain ⟨x,hx⟩:=h3 n (hin n hn)
  obtain ⟨g1,g2,g3⟩:=h1.2.2 n x hx
  exact ⟨g1,g2⟩
def zc:List AV:=[.int .i64 0,.int .i64 0,.int .i64 0,.sl true []]
def uO (mp:MP) (N:Nat):List (List AV):=mp.foldl (fun l x=>l.set x.1.toNat (T.enc x.2)) (List.replicate N zc)
theorem QN (mp:MP) (x:Int × T) (N:Nat):uO (mp++[x]) N=(uO mp N).set x.1.toNat (T.enc x.2):=by simp [uO]
theorem J6 (mp:MP) (N:Nat):(uO mp N).length=N:=by
 suffices h:∀ (mp:MP) (l:List (List AV)),(mp.foldl (fun l x=>l.set x.1.toNat (T.enc x.2)) l).length=l.length by rw [uO,h,List.length_replicate]
 intro mp
 induction mp with
 |nil=>intro l;rfl
 |cons x mp ih=>intro l;rw [gr,ih,ef]
theorem yR {Q:List AV->Prop} (hz:Q zc) (ht:∀ t:T,Q (T.enc t)) (mp:MP) (N:Nat):∀ e∈uO mp N,Q e:=by
 suffices h:∀ (mp:MP) (l:List (List AV)),(∀ e∈l,Q e)->∀ e∈mp.foldl (fun l x=>l.set x.1.toNat (T.enc x.2)) l,Q e by
  exact h mp _ fun e he=>by rw [(List.mem_replicate.1 he).2];exact hz
 intro mp
 induction mp with
 |nil=>intro l h;exact h
 |cons x mp ih=>
  intro l h
  refine ih _ fun e he=>?_
  rcases List.mem_or_eq_of_mem_set he with he|rfl
  .exact h e he
  .exact ht _
theorem Y1 (mp:MP) (N:Nat):(uO mp N).map wkL=T.encs (yQ mp N):=by
 suffices h:∀ (mp:MP) (l:List (List AV)) (l':List T),l.map wkL=T.encs l'->(mp.foldl (fun l x=>l.set x.1.toNat (T.enc x.2)) l).map wkL=T.encs (mp.foldl (fun l x=>l.set x.1.toNat x.2) l') by
  refine h mp _ _ ?_
  rw [T.encs_map,List.map_replicate,List.map_replicate];rfl
 intro mp
 induction mp with
 |nil=>intro l l' h;exact h
 |cons x mp ih=>
  intro l l' h
  refine ih _ _ ?_
  rw [List.map_set,h,T.wk_enc,T.encs_map,T.encs_map,List.map_set]
theorem y5 {l:List (List AV)} (h:∀ e∈l,aP aE e=true):cQ aE l=true:=by
 induction l with
 |nil=>rfl
 |cons a l ih=>simp only [cQ,h a (by simp),ih fun e he=>h e (by simp [he]),ai]
theorem MI {mp:MP} {i:Nat} {x:Int × T} (h:mp[i]? =some x):fU (mp.take (i+1))=max (fU (mp.take i)) x.1:=by
 rw [dh,h];exact rR _ _ x.2
theorem U9:∀ (mp:MP), -1<=fU mp/\∀ x∈mp,x.1<=fU mp:=by
 suffices h:∀ (mp:MP) (m:Int),m<=mp.foldl (fun m x=>max m x.1) m/\∀ x∈mp,x.1<=mp.foldl (fun m x=>max m x.1) m from fun mp=>h mp (-1)
 intro mp
 induction mp with
 |nil=>intro m;exact ⟨Int.le_refl _,fun x h=>(by cases h)⟩
 |cons y mp ih=>
  intro m
  obtain ⟨h1,h2⟩:=ih (max m y.1)
  rw [gr]
  refine ⟨by omega,fun x hx=>?_⟩
  rcases bn.1 hx with rfl|hx
  .omega
  .exact h2 x hx
theorem U8:∀ (mp:MP),(∀ x∈mp,x.1<=7)->fU mp<=7:=by
 suffices h:∀ (mp:MP) (m:Int),m<=7->(∀ x∈mp,x.1<=7)->mp.foldl (fun m x=>max m x.1) m<=7 from fun mp=>h mp (-1) (by decide)
 intro mp
 induction mp with
 |nil=>intro m h _;exact h
 |cons y mp ih=>intro m h hx;exact ih _ (by have:=hx y (by simp);show max m y.1<=7;omega) fun x h=>hx x (by simp [h])
def QQ:Bool × MP->AV
 |(true,mp)=>.tup [.sl false (T.encs (yQ mp (fU mp+1).toNat)),.bool true]
 |(false,_)=>.tup [.sl false [],.bool false]
set_option maxHeartbeats 8000000 in
theorem TK (f t:T) (hf:T.size f<=100000000000) (ht:T.size t<=1000000000000):Pure Tryz.prog G0 78 [.agg (T.enc f),.agg (T.enc t)] (QQ (T.mat f t true [])):=by
 have h1t:=T.enc_tree f
 have h2t:=T.enc_tree t
 have km:=fun rows h3=>aAu 100000000000 (by decide) f (by omega) t ht true [] (fun y hy=>(by cases hy)) (by simp;omega) rows h3
 have km:=fun rows h3=>nZ (args:=[.agg (T.enc f),.agg (T.enc t),.bool true,.sl true []]) [] (km rows h3) ⟨.inl rfl,.inl rfl,.inl rfl,.inr .toRsv,trivial⟩ (by simp)
 obtain ⟨hr1,hr2⟩:=T.rmat_mat f t true []
 obtain ⟨hO,_,_⟩:=T.mat_goodO f t true [] DL
 have hlen:=T.mat_len f t true []
 rcases hm:T.mat f t true [] with ⟨ok,mp⟩
 rw [hm] at hr1 hr2 hO hlen
 simp only at hr1 hr2 hO hlen
 rcases hrm:T.rmat f t true [] with ⟨ok',ma,mb⟩
 rw [hrm] at km hr1 hr2
 simp only at km hr1 hr2
 subst hr1
 obtain ⟨xa,xb,xc,xd,hxe⟩:=aN f
 obtain ⟨ya,yb,yc,yd,hye⟩:=aN t
 rw [hxe] at h1t km ⊢
 rw [hye] at h2t km ⊢
 have htree:aI aE (QQ (ok',mp))=true:=by cases ok'<;>simp only [QQ,aI,aP,cQ,T.encs_tree,ai]
 refine bH bX Tryz.func78 rfl (by kernel_rfl) (by simp [Tryz.ntmps78]) (by simp only [aP,aI,ac,ab,ae] at h1t h2t ⊢;exact ⟨h1t,h2t⟩) (by exact htree) ?_
 simp only [Tryz.ntmps78,aK,Nat.reduceAdd]
 cases ok' with
 |false=>
  repeat' (first|(refine cC ?_;simp only [wS,simprocAttr,bf,be,↓bM,↓aY])|refine aM|(refine cM (km _ aZ) ?_;simp only [wS,simprocAttr,bu,br,bf,be,↓bM,↓aY]))
  refine eS rfl ?_
  refine aA
  rfl
 |true=>
  have:=hr2 rfl
  simp only [db] at this
  obtain ⟨rfl,rfl⟩:=this
  clear hrm hr2
  have hFs:=ZT mb
  have hFl:=WL mb
  have hFt:=qT mb
  have hml:mb.length<=100000000000:=by simp only [ak] at hlen;omega
  have hub:fU mb<=7:=U8 mb fun x hx=>(hO.1 x hx).2
  have hlb:=U9 mb
  have hFg:∀ (i:Nat) (a:Int) (x:T),mb[i]? =some (a,x)->(FE mb)[i]? =some (.int .i64 a::T.enc x):=fun i a x h=>by simp only [FE,bh,h,dv]
  repeat' (first|(refine cC ?_;simp only [wS,simprocAttr,bf,be,↓bM,↓aY])|refine aM|(refine cM (km _ aZ) ?_;simp only [wS,simprocAttr,bu,br,bf,be,↓bM,↓aY]))
  refine aJ (α:={i:Nat // i<=mb.length}) (fun i=>[(6,.sl false (FE mb)),(8,.int .i64 (fU (mb.take i.1))),(9,.int .i64 (i.1:Nat))]) (fun i=>[]) (fun i=>mb.length - i.1) ⟨0,az _⟩ (cA [3] (kp []) bX (fun r hr=>absurd hr (bm r)) ?_ ?_ ?_) ?_
  .simp only [wS,simprocAttr,dL,iD,and_true,true_or,ci,fU,List.foldl_nil];exact .inr (eA (v:=(FE mb).length - 1) rfl (by simp) hFs hFt)
  .simp only [bg,bz,ab,aI];exact aB hFt
  .refine aA
   simp only [hY,eD,and_true]
   exact ⟨rfl,rfl,rfl,rfl⟩
  .rintro ⟨i,hi⟩ K hK
   try simp only at hi
   by_cases hlt:i<mb.length
   .have c1:decide (((i:Nat):Int)<(((FE mb).length:Nat):Int))=true:=by simp;omega
    obtain ⟨⟨a,x⟩,hx⟩:∃ x,mb[i]? =some x:=⟨_,ah hlt⟩
    have gx:=hFg i a x hx
    have hA:i<(FE mb).length:=by omega
    have e3:=aO (k:=i) hlt (by omega)
    have htk:fU (mb.take (i+1))=if a > fU (mb.take i) then a else fU (mb.take i):=by rw [MI hx];simp only;split<;>omega
    obtain ⟨za,zb,zc',zd,hze⟩:=aN x
    rw [hze] at gx
    refine bB (dV gx hA c1 e3)
    refine hK.go ⟨i+1,hlt⟩ aX (by simp only;omega)
    .simp only [wS,simprocAttr,htk];try exact rfl
    .exact aZ
    .intro z hz
     replace hz:=aC hz
     rcases hz with rfl|rfl|rfl<;>first|rfl|(simp only [aI];exact aB hFt)
    .refine aS;try exact rfl
   .have c1:decide (((i:Nat):Int)<(((FE mb).length:Nat):Int))=false:=by simp;omega
    obtain rfl:i=mb.length:=by omega
    rw [bi]
    obtain ⟨n,hn⟩:∃ n:Nat,(n:Int)=fU mb+1:=⟨(fU mb+1).toNat,by omega⟩
    have hn8:n<=8:=by omega
    have en:IntKind.i64.wrap (fU mb+1)=((n:Nat):Int):=by rw [dP (by omega) (by omega),hn]
    have hto:(fU mb+1).toNat=n:=by omega
    have hnb:(n*49<=140737488355328)=True:=eq_true (by omega)
    refine bB (dV c1 en hnb @ap)
    refine aJ (α:={i:Nat // i<=mb.length}) (fun i=>[(6,.sl false (FE mb)),(10,.osl 0 0 0 n 4 true),(11,.int .i64 (i.1:Nat))]) (fun i=>[.cells 0 (uO (mb.take i.1) n).flatten]) (fun i=>mb.length - i.1) ⟨0,az _⟩ (Weak.ref ⟨?_,.inl ?_⟩) ?_
    .exact aZ
    .simp only [wS,simprocAttr,ci];try exact rfl
    .clear hK hi
     rintro ⟨i,hi⟩ K hK
     try simp only at hi
     have hC4:=yR (Q:=fun e=>e.length=4) rfl T.enc_len (mb.take i) n
     have hCl:=J6 (mb.take i) n
     by_cases hlt:i<mb.length
     .have c1:decide (((i:Nat):Int)<(((FE mb).length:Nat):Int))=true:=by simp;omega
      obtain ⟨⟨a,x⟩,hx⟩:∃ x,mb[i]? =some x:=⟨_,ah hlt⟩
      have gx:=hFg i a x hx
      have hA:i<(FE mb).length:=by omega
      have e3:=aO (k:=i) hlt (by omega)
      have htk:uO (mb.take (i+1)) n=(uO (mb.take i) n).set a.toNat (T.enc x):=by
       rw [dh,hx];exact QN _ _ n
      have ha0:=(hO.1 _ (aj hx)).1
      have ha1:=hlb.2 _ (aj hx)
      simp only at ha0 ha1
      obtain ⟨ka,rfl⟩:∃ k:Nat,a=k:=⟨a.toNat,by omega⟩
      have hkn:ka<n:=by omega
      have hst:=zY hC4 (i:=ka) (by omega) (T.enc_len x)
      have hfl:(uO (mb.take i) n).flatten.length=n*4:=by rw [dE hC4,hCl]
      have hb4:ka*4+4<=n*4:=by omega
      rw [ax] at htk
      rw [<- htk] at hst
      have hxt:=yR (Q:=fun e=>aP aE e=true) rfl T.enc_tree (mb.take (i+1)) n
      obtain ⟨za,zb,zc',zd,hze⟩:=aN x
      rw [hze] at gx hst
      refine bB (eT gx hA hkn hfl hb4 c1 e3)
      refine hK.go ⟨i+1,hlt⟩ aX (by simp only;omega)
      .exact aZ
      .simp only [wS,simprocAttr,hst];try exact rfl
      .intro z hz
       replace hz:=aC hz
       rcases hz with rfl|rfl|rfl<;>first|rfl|(simp only [aI];exact aB hFt)
      .refine aS;try exact dK (aB (y5 hxt))
     .have c1:decide (((i:Nat):Int)<(((FE mb).length:Nat):Int))=false:=by simp;omega
      obtain rfl:i=mb.length:=by omega
      rw [bi] at hC4 hCl ⊢
      have hxt:=y5 (yR (Q:=fun e=>aP aE e=true) rfl T.enc_tree mb n)
      refine cP c1
      refine Cont.go (by assumption) ?_
      refine cP c1
      refine Cont.go (by assumption) (cK (cA [0] (kp []) (l:=[(10,.sl false (uO mb n))]) (h:=[]) bX (fun r hr=>absurd hr (bm r)) ?_ ?_ ?_) ?_)
      .simp only [wS,simprocAttr,dL,iD,and_true,true_or];exact (.osl (cs:=(uO mb n).flatten) (by simp) rfl (by rw [J6]) hC4 (by rw [co,bx (by rw [dE hC4,hCl];exact ap _)]) hxt)
      .simp only [bg,bz,ab,aI];exact aB hxt
      .refine aA
       simp only [hY,and_true];rfl
      refine aF
      refine eS rfl ?_
      refine aA
      rw [AM.wk]
      simp only [wkL,AM.wk,gS,Y1,QQ,hto]
end Go.Proofs.YtggflhbigolakaaGreatDoor
