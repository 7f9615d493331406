import Derived.Test.YtggflhbigolakaaGreatDoorEN
import Derived.Test.YtggflhbigolakaaGreatDoorYL
import Derived.Test.YtggflhbigolakaaGreatDoorUD
import Derived.Test.YtggflhbigolakaaGreatDoorFB
set_option linter.unusedSimpArgs false
namespace Go.Proofs.YtggflhbigolakaaGreatDoor
open Go.AM
attribute [local irreducible] cG bG bI bL bW bZ aQ aV bN
set_option maxRecDepth 100000
def wD (c:T) (O:List hI):Nat->Nat
 |0=>0
 |n+1=>if (eZ c (O.take (n+1))).length<=14 then n+1 else wD c O n
theorem M0 (c:T):(eZ c []).length=0:=by
 have:=nI c [] (T.paths c)
 unfold eZ
 simp at this ⊢
 exact this
theorem P6 (c:T) (O:List hI):∀ n,wD c O n<=n/\(eZ c (O.take (wD c O n))).length<=14
 |0=>⟨ap _,by rw [wD,ci,M0];omega⟩
 |n+1=>by
  obtain ⟨h1,h2⟩:=P6 c O n
  rw [wD]
  split
  .rename_i h;exact ⟨ap _,h⟩
  .exact ⟨by omega,h2⟩
set_option maxHeartbeats 8000000 in
theorem aCm (l m:List Int) (hl:∀ x∈l,bR x) (hm:∀ x∈m,bR x):∃ (c:T) (O:List hI),Pure Tryz.prog G0 10 [cY l,cY m] (.tup [.agg (T.enc c),.sl false (O.map eE)])/\T.size c<=250/\T.rg c/\O.length<=7/\(∀ o∈O,wJ o)/\(eZ c O).length<=14:=by
 obtain ⟨pn,fs,bs,hpv⟩:=G7.made_v l (G7.con l)
 have kc:=aAA l hl
 have hc:=hpv.sz
 have hrc:=TF _ (TP hpv)
 generalize G7.made l (G7.con l)=c at kc hc hrc
 obtain ⟨O,kO,hO7,hOB⟩:=aCa c (by omega) hrc m hm
 have hlab:=P6 c O O.length
 have hstep:∀ n,wD c O (n+1)=if (eZ c (O.take (n+1))).length<=14 then n+1 else wD c O n:=fun n=>rfl
 have hzero:wD c O 0=0:=rfl
 refine ⟨c,O.take (wD c O O.length),?_,hc,hrc,by rw [cr];omega,fun o ho=>hOB o (fx ho),hlab.2⟩
 have ks:=fun n=>IM c (by omega) false (O.take n) (fun o ho=>(hOB o (fx ho)).1) (by rw [cr];omega)
 have hsl:=fun n=>NM (eZ c (O.take n))
 have htr:=T.enc_tree c
 have hwc:=T.wk_enc c
 have hOt:=fun n=>dH (O.take n)
 have hOl:∀ n,n<=O.length->((O.take n).map eE).length=n:=fun n h=>by rw [bp,cr];omega
 have hOtk:∀ n,((O.take (n+1)).map eE).take n=(O.take n).map eE:=fun n=>by rw [<- List.map_take,List.take_take,jn (by omega)]
 have hO10:∀ n,((O.take n).map eE).all (fun e=>decide (e.length=10))=true:=fun n=>cl.2 fun e he=>by
  obtain ⟨⟨nm,f,p,b⟩,_,rfl⟩:=cf.1 he
  simpa using ON nm f p b
 have hOw:AM.wk (.sl false ((O.take (wD c O O.length)).map eE))=.sl false ((O.take (wD c O O.length)).map eE):=by
  rw [AM.wk,gS]
  congr 1
  rw [gn]
  exact fg fun o _=>TZ _ _ _ _
 have hfull:O.map eE=(O.take O.length).map eE:=by rw [bi]
 rw [hfull] at kO
 obtain ⟨F,hF⟩:∃ F:Nat->List (List AV),F=fun n=>(O.take n).map eE:=⟨_,rfl⟩
 have hFn:∀ n,(O.take n).map eE=F n:=fun n=>by rw [hF]
 simp only [hFn] at kO ks hOt hOl hOtk hO10 hOw ⊢
 obtain ⟨G,hG⟩:∃ G:Nat->List (List AV),G=fun n=>SE (eZ c (O.take n)):=⟨_,rfl⟩
 have hGn:∀ n,SE (eZ c (O.take n))=G n:=fun n=>by rw [hG]
 simp only [hGn] at ks hsl
 obtain ⟨Q,hQ⟩:∃ Q:Nat->Nat,Q=wD c O:=⟨_,rfl⟩
 rw [<- hQ] at hstep hzero hOw hlab ⊢
 simp only [cY] at kc kO ⊢
 have hlt:cQ aE (l.map fun n=>[AV.int .i64 n])=true:=bD l
 have hmt:cQ aE (m.map fun n=>[AV.int .i64 n])=true:=bD m
 generalize (l.map fun n=>[AV.int .i64 n])=EL at kc hlt ⊢
 generalize (m.map fun n=>[AV.int .i64 n])=EM at kO hmt ⊢
 obtain ⟨ca,cb,cc,cd,hce⟩:=aN c
 rw [hce] at kc kO ks htr hwc ⊢
 have hres:aI aE (.tup [.agg [.int .i64 ca,.int .i64 cb,.int .i64 cc,.sl false cd],.sl false (F (Q O.length))])=true:=by
  simp only [aI,aP,hOt,ab,ac] at htr ⊢
  exact htr
 refine bH bX Tryz.func10 rfl (by kernel_rfl) (by simp [Tryz.ntmps10]) (by simp only [aP,aI,hlt,hmt,ai]) (by exact hres) ?_
 simp only [Tryz.ntmps10,aK,Nat.reduceAdd]
 refine gU
 refine aJ (α:={n:Nat // n<=O.length/\Q n=Q O.length}) (fun n=>[(4,.ptr 0 0 0),(6,.ptr 1 0 0),(7,.sl false (F n.1))]) (fun n=>[.cells 0 [.int .i64 0,.int .i64 0,.int .i64 0,.sl true []],.cells 0 [.int .i64 ca,.int .i64 cb,.int .i64 cc,.sl false cd]]) (fun n=>n.1) ⟨O.length,ap _,rfl⟩ (Weak.ref ⟨?_,.inl ?_⟩) ?_
 .exact aZ
 .exact aZ
 .rintro ⟨n,hn,hQn⟩ K hK
  try simp only at hn hQn
  have hFl:=hOl n hn
  cases n with
  |zero=>
   have c1:decide ((((F 0).length:Nat):Int) > 0)=false:=by rw [hFl];rfl
   have c2:True:=trivial
   rw [hzero] at hQn
   rw [<- hQn] at hOw
   refine bB c1
   refine bK (v:=.agg [.int .i64 ca,.int .i64 cb,.int .i64 cc,.sl false cd]) rfl ?_ ?_
   .refine aA
   .refine aA
    rw [<- hQn,AM.wk,wkL,AM.wk,hwc,wkL,hOw,wkL]
  |succ n=>
   have c1:decide ((((F (n+1)).length:Nat):Int) > 0)=true:=by rw [hFl];simp
   have kss:=ks (n+1)
   have hsn:=hsl (n+1)
   have hst:=hstep n
   rw [<- hsn] at hst
   by_cases h14:(G (n+1)).length<=14
   .have c2:decide ((((G (n+1)).length:Nat):Int) > 14)=false:=by simp;omega
    rw [if_pos h14] at hst
    rw [hst] at hQn
    rw [<- hQn] at hOw
    refine c7 (bF c1 c2)
    refine bK (v:=.agg [.int .i64 ca,.int .i64 cb,.int .i64 cc,.sl false cd]) rfl ?_ ?_
    .refine aA
    .refine aA
     rw [<- hQn,AM.wk,wkL,AM.wk,hwc,wkL,hOw,wkL]
   .have c2:decide ((((G (n+1)).length:Nat):Int) > 14)=true:=by simp;omega
    rw [if_neg h14] at hst
    have em:IntKind.i64.wrap ((((F (n+1)).length:Nat):Int) - 1)=((n:Nat):Int):=by rw [hFl,dP (by omega) (by omega)];omega
    have htk:=hOtk n
    have h10:=hO10 (n+1)
    have hle:n<=(F (n+1)).length:=by omega
    have hFt:=hOt n
    repeat' (first|(refine cC ?_;simp only [wS,simprocAttr,c1,c2,em,htk,h10,hle,if_true,decide_true,ac,ab,co,dm])|refine aM|refine iP ?_|fail)
    refine hK.go ⟨n,by omega,by rw [<- hst];exact hQn⟩ aX (by simp only;omega)
    .exact aZ
    .exact aZ
    .intro z hz
     replace hz:=aC hz
     rcases hz with rfl|rfl|rfl<;>first|rfl|(simp only [aI];exact aB hFt)
    .refine aS;try exact ⟨rfl,bE htr⟩
def siA (x:List Int × Nat):Si:=(x.1,(x.2:Int))
theorem aCF (l:List (List Int × Nat)):SE l=mC (l.map siA):=by simp only [SE,mC,gn];rfl
theorem JU (t:T) (p:List Int):∀ (ol:List hI) (k:Nat),∀ x∈fD t p ol k,∃ (j:Nat) (o:hI) (u:T),x=(p,k+j)/\ol[j]? =some o/\uC o t=some u
 | [],_,x,h=>by cases h
 |o::ol,k,x,h=>by
  rw [fD] at h
  rcases bo.1 h with h|h
  .cases ha:uC o t with
   |none=>rw [ha] at h;cases h
   |some u=>
    rw [ha] at h
    simp only [BS,bd] at h
    exact ⟨0,o,u,h,rfl,ha⟩
  .obtain ⟨j,o',u,h1,h2,h3⟩:=JU t p ol (k+1) x h
   exact ⟨j+1,o',u,by rw [h1];congr 1;omega,by simpa using h2,h3⟩
theorem xY (t:T) (ol:List hI):∀ (ps:List (List Int)),∀ x∈dJ t ol ps,∃ (n:T) (j:Nat) (o:hI) (u:T),x.2=j/\T.sub t x.1=some n/\ol[j]? =some o/\uC o n=some u
 | [],x,h=>by cases h
 |p::ps,x,h=>by
  rw [dJ] at h
  rcases bo.1 h with h|h
  .cases hs:T.sub t p with
   |none=>rw [hs] at h;cases h
   |some n=>
    rw [hs] at h
    obtain ⟨j,o,u,rfl,h2,h3⟩:=JU n p ol 0 x h
    exact ⟨n,j,o,u,by simp,hs,h2,h3⟩
  .exact xY t ol ps x h
theorem x6 {c:T} {O:List hI} {s:Si} (h:∃ x∈eZ c O,s=siA x):∃ (n:T) (j:Nat) (o:hI) (u:T),s.2=j/\T.sub c s.1=some n/\O[j]? =some o/\uC o n=some u/\fK c O s=some u:=by
 obtain ⟨x,hx,rfl⟩:=h
 unfold eZ at hx
 split at hx
 .cases hx
 .rename_i hl
  obtain ⟨n,j,o,u,h1,h2,h3,h4⟩:=xY c O _ x hx
  refine ⟨n,j,o,u,by rw [<- h1];rfl,h2,h3,h4,?_⟩
  show fK c O (x.1,(x.2:Int))=some u
  have ha:W1 O (x.2:Int)=some o:=by rw [W1,if_pos (by omega),h1];simpa using h3
  rw [fK]
  simp only [h2,ha,if_pos (show O.length<=24 by omega)]
  exact h4
theorem rgs_of {es:List T} (h:∀ e∈es,T.rg e):T.rgs es:=by
 induction es with
 |nil=>simp [T.rgs]
 |cons e es ih=>rw [T.rgs];exact ⟨h e (by simp),ih fun x hx=>h x (by simp [hx])⟩
def zT (mp:MP):Prop:=∀ x∈mp,T.rg x.2
theorem yD:∀ {t:T},T.rg t->T.rgs t.kids
 | .mk k n m es,h=>by rw [T.rg] at h;exact h.2.2.2
theorem XS:∀ {t:T},T.rg t->bR t.num
 | .mk k n m es,h=>by rw [T.rg] at h;exact h.2.1
namespace T
mutual
theorem UA:∀ (p t:T) (root:Bool) (mp:MP),rg t->zT mp->zT (mat p t root mp).2
 |mk pk pn pm ps,t,root,mp,ht,hm=>by
  have h:=OS ps t.kids mp (yD ht) hm
  rw [mat]
  split
  .split
   .exact hm
   .split
    .exact hm
    .intro x hx
     rcases bo.1 hx with hx|hx
     .exact hm x hx
     .rw [bd.1 hx];exact ht
  .split
   .exact h
   .exact hm
theorem OS:∀ (ps es:List T) (mp:MP),rgs es->zT mp->zT (mats ps es mp).2
 |p::ps,e::es,mp,hs,hm=>by
  rw [rgs] at hs
  have h1:=UA p e false mp hs.1 hm
  rw [mats]
  split
  .rename_i mp' h
   rw [h] at h1
   exact OS ps es mp' hs.2 h1
  .rename_i mp' h
   rw [h] at h1
   exact h1
 | [],_,mp,_,hm=>by rw [mats]<;>first|exact hm|simp
 |_::_,[],mp,_,hm=>by rw [mats]<;>first|exact hm|simp
end
theorem zero_rg:rg zero:=by
 simp only [zero,rg,rgs,and_true]
 unfold bR
 omega
theorem OY:∀ {mp:MP},zT mp->∀ n,rg ((dG mp n).getD zero)
 | [],_,n=>zero_rg
 |x::mp,h,n=>by
  rw [dG]
  split
  .exact h x (by simp)
  .exact OY (fun y hy=>h y (by simp [hy])) n
mutual
theorem TM {mp:MP} (h:zT mp) {nn:Int} (hn:bR nn):∀ t:T,rg t->rg (put mp nn t)
 |mk k n m ps,ht=>by
  rw [rg] at ht
  have h2:=OK h hn ps ht.2.2.2
  rw [put]
  split
  .exact OY h n
  .rw [rg]
   refine ⟨ht.1,?_,ht.2.2.1,h2⟩
   split
   .exact hn
   .exact ht.2.1
theorem OK {mp:MP} (h:zT mp) {nn:Int} (hn:bR nn):∀ ts:List T,rgs ts->rgs (puts mp nn ts)
 | [],_=>by simp [puts,rgs]
 |t::ts,ht=>by
  rw [rgs] at ht
  rw [puts,rgs]
  exact ⟨TM h hn t ht.1,OK h hn ts ht.2⟩
end
theorem app_rg {nm:ByteArray} {f p:T} {b:Int} {t x:T} (hp:rg p) (ht:rg t) (h:app nm f p b t=some x):rg x:=by
 have hg:=UA f t true [] ht (fun y hy=>(by cases hy))
 unfold app at h
 split at h
 .split at h
  .rename_i mp hm
   rw [hm] at hg
   have hq:=TM hg (XS ht) p hp
   rw [H4] at h
   split at h
   .cases h
   .cases h;exact hq
  .cases h
 .cases h
theorem sub_rg:∀ {p:List Int} {t u:T},rg t->sub t p=some u->rg u
 | [],t,u,h,e=>by rw [sub] at e;cases e;exact h
 |i::p,t,u,h,e=>by
  rw [sub] at e
  split at e
  .split at e
   .rename_i x hx
    exact sub_rg (rgs_mem (yD h) x (aj hx)) e
   .cases e
  .cases e
theorem XR {es:List T} (h:rgs es) (i:Nat) {x:T} (hx:rg x):rgs (es.set i x):=rgs_of fun e he=>by
 rcases List.mem_or_eq_of_mem_set he with he|rfl
 .exact rgs_mem h e he
 .exact hx
theorem set_rg:∀ (p:List Int) (t x:T),rg t->rg x->rg (set t p x)
 | [],t,x,_,h=>by rw [set];exact h
 | i :: p, t, x, h, hx => by
  rw [set]
  split
  .split
   .rename_i e he
    have h1:=set_rg p e x (rgs_mem (yD h) e (aj he)) hx
    cases t with
    |mk k n m es=>
     simp only [rg,kids,kind,num,low] at h ⊢
     exact ⟨h.1,h.2.1,h.2.2.1,XR h.2.2.2 _ h1⟩
   .exact h
  .exact h
theorem set_leA:∀ (p:List Int) (t x:T),size (set t p x)<=size t+size x
 | [],t,x=>by rw [set];omega
 | i :: p, t, x => by
  rw [set]
  split
  .split
   .rename_i e he
    have h1:=set_leA p e x
    cases t with
    |mk k n m es=>
     have h2:=sizes_set (u:=set e p x) he
     simp only [kids,kind,num,low,size] at h2 ⊢
     omega
   .omega
  .omega
end T
section
variable {c:T} (hc:T.size c<=250) (hr:T.rg c) {O:List hI} (hO:∀ o∈O,wJ o)
include hc hr hO
theorem NZ {s:Si} {x:T} (h:fK c O s=some x):T.size x<=8000/\T.rg x:=by
 obtain ⟨n,o,h1,h2,h3,h4⟩:=uI h
 have hn:T.size n<=250:=dj (T.sub_size h1) hc
 refine ⟨RF (B:=250) (by decide) hn h4,?_⟩
 have ho:o∈O:=by
  rw [W1] at h2
  split at h2
  .exact aj h2
  .cases h2
 exact T.app_rg (hO o ho).2.2 (T.sub_rg hr h1) h4
theorem ZW (s:Si):T.size (HB c O s)<=8000/\T.rg (HB c O s):=by
 rw [HB]
 cases h:fK c O s with
 |none=>exact ⟨by decide,T.zero_rg⟩
 |some x=>exact NZ hc hr hO h
theorem JJ:∀ (M:List Si) (out u:T),T.rg out->g9 c O out M=some u->T.size u<=T.size out+M.length*8000/\T.rg u
 | [],out,u,h,e=>by rw [g9] at e;cases e;exact ⟨by simp,h⟩
 |s::M,out,u,h,e=>by
  rw [g9] at e
  split at e
  .cases e
  .rename_i x hx
   obtain ⟨g1,g2⟩:=NZ hc hr hO hx
   obtain ⟨g3,g4⟩:=JJ M _ u (T.set_rg s.1 out x h g2) e
   have:=T.set_leA s.1 out x
   refine ⟨?_,g4⟩
   simp only [af]
   omega
theorem aAV (M:List Si):T.size (oP c O M)<=25000/\T.rg (oP c O M):=by
 rw [oP]
 split
 .rename_i ha
  have h3:M.length<=3:=by
   simp only [c6,ae,decide_eq_true_eq] at ha
   exact ha.2
  cases h:g9 c O c M with
  |none=>exact ⟨by decide,T.zero_rg⟩
  |some u=>
   obtain ⟨g1,g2⟩:=JJ hc hr hO M c u hr h
   refine ⟨?_,g2⟩
   show T.size u<=25000
   omega
 .exact ⟨by decide,T.zero_rg⟩
end
theorem zC {c:T} {O:List hI} {s t:Si} (h1:t.1=s.1) (h2:fK c O t=fK c O s) (r:List Si):∀ (X:List Si) (out:T),g9 c O out (X++s::r)=g9 c O out (X++t::r)
 | [],out=>by simp only [ba,g9,h1,h2]
 |x::X,out=>by
  simp only [ar,g9]
  split
  .rfl
  .exact zC h1 h2 r X _
theorem UC {c:T} {O:List hI} {s t:Si} (h1:t.1=s.1) (h2:fK c O t=fK c O s) (X r:List Si):oP c O (X++s::r)=oP c O (X++t::r):=by
 have ha:c6 (X++s::r)=c6 (X++t::r):=sB (by simp [h1])
 rw [oP,oP,ha,zC h1 h2]
end Go.Proofs.YtggflhbigolakaaGreatDoor
