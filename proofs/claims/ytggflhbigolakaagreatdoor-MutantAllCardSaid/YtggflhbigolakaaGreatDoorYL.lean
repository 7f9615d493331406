import Derived.Test.YtggflhbigolakaaGreatDoorYJ
set_option linter.unusedSimpArgs false
namespace Go.Proofs.YtggflhbigolakaaGreatDoor
open Go.AM
attribute [local irreducible] cG bG bI bL bW bZ aQ aV bN
set_option maxRecDepth 100000
namespace G7
def con (L:List Int):Bool:=sG L 0 9==8
end G7
theorem aAA (L:List Int) (hL:∀ x∈L,bR x):Pure Tryz.prog G0 34 [cY L] (.agg (T.enc (G7.made L (G7.con L)))):=by
 have km:=aAT L hL (G7.con L)
 have ka:=v7 L 0 9 hL (by decide)
 have htr:=T.enc_tree (G7.made L (G7.con L))
 have hwk:=T.wk_enc (G7.made L (G7.con L))
 have hLt:aI aE (cY L)=true:=fP L
 obtain ⟨ta,tb,tc,TE,hte⟩:=aN (G7.made L (G7.con L))
 rw [hte] at km htr hwk ⊢
 generalize cY L=EL at hLt km ka ⊢
 refine aL bX Tryz.func34 rfl (by kernel_rfl) (by simp [Tryz.ntmps34]) (by simp only [aP,hLt,ai]) (by simpa only [aI] using htr) ?_
 simp only [Tryz.ntmps34,aK,Nat.reduceAdd]
 repeat' (first|(refine cC ?_;refine aA)|refine aM|refine bO bX (ka) (gR ?_)|refine bO bX (km) (gR ?_))
 refine dB (v:=.agg [.int .i64 ta,.int .i64 tb,.int .i64 tc,.sl false TE]) rfl aZ rfl
namespace G7
structure ProgV (t:T) (pn:Int) (fs:List (Nat × List T)) (bs:List T):Prop where
 eq:t=.mk 27 pn 0 (List.zipWith funT fs bs)
 len:bs.length=fs.length
 n1:1<=fs.length
 n3:fs.length<=3
 fd:∀ fd∈fs,fdV fd
 p0:0<=pn
 p2:pn<=2
 b:∀ (i:Nat) (b:T),bs[i]? =some b->StV ⟨[],fs,i,false,pn⟩ 12 b/\b.kind=13
 sz:T.size t<=250
theorem ExV.env {e e':Env} (hf:e.fs=e'.fs) (hF:e.F=e'.F) (hp:e.pn=e'.pn) {kind:Int} {d:Nat} {t:T} (h:ExV e kind d t):ExV e' kind d t:=by
 have hv:e.vars=e'.vars:=by rw [Env.vars,Env.vars,hf,hF]
 induction h with
 |num d n h1 h2=>exact .num _ _ h1 h2
 |truth d n h1 h2=>exact .truth _ _ h1 h2
 |var d kind v t h hk hp=>exact .var _ _ _ _ (hv ▸ h) hk hp
 |fld d kind v k t c h h3 hc hk hp=>exact .fld _ _ _ _ _ _ (hv ▸ h) h3 hc hk hp
 |elem d v t a h h2 ha ih=>exact .elem _ _ _ _ (hv ▸ h) h2 ih
 |call d f fd ags h hl ha ih=>exact .call _ _ _ _ (hf ▸ h) hl ih
 |recv d c h1 h2=>exact .recv _ _ h1 (hp ▸ h2)
 |neg d a ha ih=>exact .neg _ _ ih
 |bin d op a b h1 h2 ha hb i1 i2=>exact .bin _ _ _ _ h1 h2 i1 i2
 |cmp d op a b h1 h2 ha hb i1 i2=>exact .cmp _ _ _ _ h1 h2 i1 i2
 |con d op a b h1 h2 ha hb i1 i2=>exact .con _ _ _ _ h1 h2 i1 i2
theorem StV.env {e e':Env} (hf:e.fs=e'.fs) (hF:e.F=e'.F) (hp:e.pn=e'.pn) {d:Nat} {t:T} (h:StV e d t):StV e' d t:=by
 have hv:e.vars=e'.vars:=by rw [Env.vars,Env.vars,hf,hF]
 induction h with
 |block d l hl h ih=>exact .block _ _ hl ih
 |set d v t a h hpk ha=>exact .set _ _ _ _ (hv ▸ h) hpk (ha.env hf hF hp)
 |put d v t a b h h2 ha hb=>exact .put _ _ _ _ _ (hv ▸ h) h2 (ha.env hf hF hp) (hb.env hf hF hp)
 |fill d v k t c a h h3 hc hpk ha=>exact .fill _ _ _ _ _ _ (hv ▸ h) h3 hc hpk (ha.env hf hF hp)
 |ite d a b c ha hb kb hc kc i1 i2=>exact .ite _ _ _ _ (ha.env hf hF hp) i1 kb i2 kc
 |loop d a b ha hb kb i1=>exact .loop _ _ _ (ha.env hf hF hp) i1 kb
 |one d k a hk ha=>exact .one _ _ _ hk (ha.env hf hF hp)
 |try' d v t b c h h0 hb kb hc kc i1 i2=>exact .try' _ _ _ _ _ (hv ▸ h) h0 i1 kb i2 kc
 |send d c a h1 h2 ha=>exact .send _ _ _ h1 (hp ▸ h2) (ha.env hf hF hp)
 |spawn d f fd ags h hl ha=>exact .spawn _ _ _ _ (hf ▸ h) hl fun i a t h1 h2=>(ha i a t h1 h2).env hf hF hp
 |skip d=>exact .skip _
theorem KY {L:List Int} {fs:List (Nat × List T)} {con:Bool} {pn:Int} (he:∀ i,i<fs.length->EnvV ⟨L,fs,i,con,pn⟩) (all:Int) (n:Nat) (hn:n=fs.length) (hn1:1<=n) (hn3:n<=3) (hal: -1200<=all/\all<=1200):∀ (m i:Nat) (a:Int),i+m=n->(blocks ⟨L,fs,0,con,pn⟩ all n m i a).1.length=m/\(∀ (j:Nat) (b:T),(blocks ⟨L,fs,0,con,pn⟩ all n m i a).1[j]? =some b->StV ⟨[],fs,i+j,false,pn⟩ 12 b/\b.kind=13/\(T.size b:Int)<=leftOf all n (i+j) - min (leftOf all n (i+j)) (-25)+1)
 |0,i,a,_=>⟨rfl,fun j b h=>by simp [blocks] at h⟩
 |m+1,i,a,hi=>by
  rw [blocks]
  have hlb:=JO all n i hal hn1 hn3
  obtain ⟨g1,g2,g3,g4⟩:=block_v (he i (by omega)) (a,leftOf all n i) (by simp only;omega) (by simp only;omega)
  rcases hb:block ⟨L,fs,i,con,pn⟩ (a,leftOf all n i) with ⟨b,s1⟩
  rw [hb] at g1 g2 g3 g4
  simp only at g1 g2 g3 g4 ⊢
  obtain ⟨h1,h2⟩:=KY he all n hn hn1 hn3 hal m (i+1) s1.1 (by omega)
  rcases hr:blocks ⟨L,fs,0,con,pn⟩ all n m (i+1) s1.1 with ⟨l,a2⟩
  rw [hr] at h1 h2
  simp only at h1 h2 ⊢
  refine ⟨by simp [h1],fun j b' hj=>?_⟩
  cases j with
  |zero=>
   simp only [fw,ao] at hj
   subst hj
   exact ⟨by rw [fy];exact StV.env (e:=⟨L,fs,i,con,pn⟩) (e':=⟨[],fs,i,false,pn⟩) rfl rfl rfl g1,g2,by rw [fy];omega⟩
  |succ j=>
   simp only [gt] at hj
   have:=h2 j b' hj
   rw [show i+1+j=i+(j+1) by omega] at this
   exact this
theorem i7:∀ a b:List T,T.sizes (a++b)=T.sizes a+T.sizes b
 | [],b=>by simp [T.sizes]
 |x::a,b=>by rw [ar,T.sizes,T.sizes,i7 a b];omega
theorem C1:∀ (fs:List (Nat × List T)) (bs:List T),bs.length=fs.length->T.sizes (List.zipWith funT fs bs)=fs.length+LY fs+T.sizes bs
 | [],[],_=>rfl
 |fd::fs,b::bs,h=>by
  have ih:=C1 fs bs (by simpa using h)
  rw [List.zipWith_cons_cons,T.sizes,ih,uH,T.sizes,funT,T.size,i7,af]
  simp only [T.sizes]
  omega
 | [],_::_,h=>by cases h
 |_::_,[],h=>by cases h
theorem aAg (al:Int) (k:Nat):(0<=al/\al.tdiv k=((al.toNat / k:Nat):Int))\/(al<0/\al.tdiv k= -(((-al).toNat / k:Nat):Int)):=by
 rcases Int.lt_or_le al 0 with h|h
 .right
  obtain ⟨m,rfl⟩:∃ m:Nat,al= -(m:Int):=⟨(-al).toNat,by omega⟩
  refine ⟨h,?_⟩
  rw [Int.neg_tdiv,Int.neg_neg,ax]
  rfl
 .left
  obtain ⟨m,rfl⟩:∃ m:Nat,al=(m:Int):=⟨al.toNat,by omega⟩
  exact ⟨h,by rw [ax];rfl⟩
theorem YH (al:Int) (n:Nat) (h: -1200<=al/\al<=1200) (h1:1<=n) (h3:n<=3):leftOf al n 0=al - ((n:Int) - 1)*al.tdiv ((n:Int)+1)/\∀ i,i≠0->leftOf al n i=al.tdiv ((n:Int)+1):=by
 have hb:=SQ al ((n:Int)+1) (by omega)
 refine ⟨?_,fun i hi=>by rw [leftOf,if_neg hi,bC (by omega) (by omega)]⟩
 rw [leftOf,if_pos rfl]
 generalize al.tdiv ((n:Int)+1)=q at hb
 rw [bC (z:=q) (by omega) (by omega)]
 have hm: -4000<=((n:Int) - 1)*q/\((n:Int) - 1)*q<=4000:=by
  have:(n:Int) - 1=0\/(n:Int) - 1=1\/(n:Int) - 1=2:=by omega
  rcases this with e|e|e<;>rw [e]<;>omega
 rw [bC (z:=((n:Int) - 1)*q) (by omega) (by omega),bC (by omega) (by omega)]
theorem RE (al:Int) (n:Nat) (h: -1200<=al/\al<=36) (h1:1<=n) (h3:n<=3) (bs:List T) (hl:bs.length=n) (hb:∀ (j:Nat) (b:T),bs[j]? =some b->(T.size b:Int)<=leftOf al n j - min (leftOf al n j) (-25)+1):(T.sizes bs:Int)<=max al 0+26*n:=by
 obtain ⟨e0,e1⟩:=YH al n (by omega) h1 h3
 have hq:=aAg al (n+1)
 rw [show ((n+1:Nat):Int)=(n:Int)+1 by omega] at hq
 rcases bs with _|⟨b0,_|⟨b1,_|⟨b2,_|⟨b3,tl⟩⟩⟩⟩
 .simp at hl;omega
 .obtain rfl:n=1:=by simpa using hl.symm
  have g0:=hb 0 b0 rfl
  rw [e0] at g0
  simp only [T.sizes]
  omega
 .obtain rfl:n=2:=by simpa using hl.symm
  have g0:=hb 0 b0 rfl
  have g1:=hb 1 b1 rfl
  rw [e0] at g0
  rw [e1 1 (by decide)] at g1
  simp only [T.sizes]
  omega
 .obtain rfl:n=3:=by simpa using hl.symm
  have g0:=hb 0 b0 rfl
  have g1:=hb 1 b1 rfl
  have g2:=hb 2 b2 rfl
  rw [e0] at g0
  rw [e1 1 (by decide)] at g1
  rw [e1 2 (by decide)] at g2
  simp only [T.sizes]
  omega
 .simp at hl;omega
theorem XC (L:List Int) (con:Bool):(con=true->1<=(start L con).1)/\0<=(start L con).1/\(start L con).1<=2/\32<=(start L con).2.2/\(start L con).2.2<=36:=by
 cases con with
 |false=>exact ⟨fun h=>(by cases h),by show (0:Int)<=0;decide,by show (0:Int)<=2;decide,by show (32:Int)<=32;decide,by show (32:Int)<=36;decide⟩
 |true=>
  rw [start]
  rcases hd:dr (env0 L true) 2 (0,32) with ⟨z,s⟩
  have hb:=dr_b (by decide) hd
  simp only
  omega
theorem made_v (L:List Int) (con:Bool):∃ pn fs bs,ProgV (made L con) pn fs bs:=by
 obtain ⟨q1,q2,q3,q4,q5⟩:=XC L con
 rw [made]
 rcases hs:start L con with ⟨pn,s⟩
 rw [hs] at q1 q2 q3 q4 q5
 simp only at q1 q2 q3 q4 q5 ⊢
 rcases hd:dr (env0 L con) 3 s with ⟨z,s1⟩
 have hb:=dr_b (by decide) hd
 have h2:=dr_2 hd
 simp only
 obtain ⟨n,hn⟩:∃ n:Nat,1+z=n:=⟨(1+z).toNat,(dc (by omega)).symm⟩
 rw [hn,ax]
 obtain ⟨g1,g2,g3⟩:=funs_v (e:=env0 L con) n s1 (by omega) (by omega)
 have g4:=JZ (env0 L con) n s1
 rcases hf:funs (env0 L con) n s1 with ⟨fs,s2⟩
 rw [hf] at g1 g2 g3 g4
 simp only at g1 g2 g3 g4 ⊢
 have hw:IntKind.i64.wrap (s2.2 - IntKind.i64.wrap (2*(n:Int)))=s2.2 - 2*n:=by rw [bC (z:=2*(n:Int)) (by omega) (by omega),bC (by omega) (by omega)]
 rw [hw]
 obtain ⟨b1,b2⟩:=KY (L:=L) (fs:=fs) (con:=con) (pn:=pn) (fun i hi=>⟨by simp only;omega,by simp only;omega,g1,fun h=>q1 h,q3⟩) (s2.2 - 2*n) n g4.symm (by omega) (by omega) (by omega) n 0 s2.1 (by omega)
 rcases hbl:blocks ⟨L,fs,0,con,pn⟩ (s2.2 - 2*n) n n 0 s2.1 with ⟨bs,a⟩
 rw [hbl] at b1 b2
 simp only [cp] at b1 b2 ⊢
 have hsz:=RE (s2.2 - 2*n) n (by omega) (by omega) (by omega) bs b1 fun j b h=>(b2 j b h).2.2
 have hz:=C1 fs bs (by omega)
 exact ⟨pn,fs,bs,rfl,by omega,by omega,by omega,g1,q2,q3,fun i b h=>⟨(b2 i b h).1,(b2 i b h).2.1⟩,by rw [T.size];omega⟩
end G7
def sm (z:Int):Prop:= -100<=z/\z<=100
mutual
def T.smt:T->Prop
 | .mk k n m es=>sm k/\sm n/\sm m/\T.smts es
def T.smts:List T->Prop
 | []=>True
 |e::es=>T.smt e/\T.smts es
end
theorem T.smts_of:∀ {es:List T},(∀ e∈es,T.smt e)->T.smts es
 | [],_=>trivial
 |e::es,h=>⟨h e (by simp),T.smts_of fun x hx=>h x (by simp [hx])⟩
theorem dS {k n m:Int} {es:List T} (h1:sm k) (h2:sm n) (h3:sm m) (h:∀ e∈es,T.smt e):T.smt (.mk k n m es):=⟨h1,h2,h3,T.smts_of h⟩
theorem sm0:sm 0:=⟨by decide,by decide⟩
theorem oZ {α:Type} {l:List α} {i:Nat} {x: α} (h:l[i]? =some x) (hl:l.length<=6):sm (i:Int):=by
 have:=(aq.1 h).1
 exact ⟨by omega,by omega⟩
theorem ZZ {t:T} (h:G7.TyV t):T.smt t:=by
 cases h with
 |pl k h=>exact dS (by rcases h with rfl|rfl<;>exact ⟨by decide,by decide⟩) sm0 sm0 oO
 |arr n h1 h2=>exact dS ⟨by decide,by decide⟩ ⟨by omega,by omega⟩ sm0 oO
 |rcd es h1 h2 h=>
  refine dS ⟨by decide,by decide⟩ sm0 sm0 fun t ht=>?_
  obtain ⟨k,hk,rfl⟩:=h t ht
  exact dS (by rcases hk with rfl|rfl<;>exact ⟨by decide,by decide⟩) sm0 sm0 oO
section
variable {pn:Int} {fs:List (Nat × List T)} (hfd:∀ fd∈fs,G7.fdV fd) {e:G7.Env} (hf:e.fs=fs)
include hfd hf
theorem NV:e.vars.length<=5/\∀ t∈e.vars,G7.TyV t:=by
 rw [G7.Env.vars]
 split
 .rename_i f hf'
  have:=hfd f (aj (hf ▸ hf'))
  exact ⟨this.2.2.1,this.2.2.2.1⟩
 .exact ⟨by simp,fun t ht=>by cases ht⟩
variable (hn:fs.length<=3) (hp:pn<=2) (hpn:e.pn=pn)
include hn hp hpn
theorem aA6 {kind:Int} {d:Nat} {t:T} (h:G7.ExV e kind d t):T.smt t:=by
 have hv:=NV hfd hf
 have k4:∀ z:Int,0<=z->z<=28->sm z:=fun z h1 h2=>⟨by omega,by omega⟩
 induction h with
 |num d n h1 h2=>exact dS (k4 _ (by decide) (by decide)) ⟨by omega,by omega⟩ sm0 oO
 |truth d n h1 h2=>exact dS (k4 _ (by decide) (by decide)) ⟨by omega,by omega⟩ sm0 oO
 |var d kind v t h hk hp=>exact dS (k4 _ (by decide) (by decide)) (oZ h (by omega)) sm0 oO
 |fld d kind v k t c h h3 hc hk hp=>
  refine dS (k4 _ (by decide) (by decide)) (oZ h (by omega)) (oZ hc ?_) oO
  have:=hv.2 t (aj h)
  cases this with
  |pl k h=>simp [T.kids]
  |arr n h1 h2=>simp [T.kids]
  |rcd es h1 h2 h=>simp only [T.kids];omega
 |elem d v t a h h2 ha ih=>exact dS (k4 _ (by decide) (by decide)) (oZ h (by omega)) sm0 (wC ih)
 |call d f fd ags h hl ha ih=>
  have hfd':=hfd fd (aj (hf ▸ h))
  exact dS (k4 _ (by decide) (by decide)) (oZ h (by rw [hf];omega)) sm0 (uB (e:=e) (d:=d) hfd'.2.1 hl ih)
 |recv d c h1 h2=>exact dS (k4 _ (by decide) (by decide)) ⟨by omega,by omega⟩ sm0 oO
 |neg d a ha ih=>exact dS (k4 _ (by decide) (by decide)) sm0 sm0 (wC ih)
 |bin d op a b h1 h2 ha hb i1 i2=>exact dS (k4 _ (by decide) (by decide)) ⟨by omega,by omega⟩ sm0 (wB i1 i2)
 |cmp d op a b h1 h2 ha hb i1 i2=>exact dS (k4 _ (by decide) (by decide)) ⟨by omega,by omega⟩ sm0 (wB i1 i2)
 |con d op a b h1 h2 ha hb i1 i2=>exact dS (k4 _ (by decide) (by decide)) ⟨by omega,by omega⟩ sm0 (wB i1 i2)
theorem aAk {d:Nat} {t:T} (h:G7.StV e d t):T.smt t:=by
 have hv:=NV hfd hf
 have k4:∀ z:Int,0<=z->z<=28->sm z:=fun z h1 h2=>⟨by omega,by omega⟩
 have hx:∀ {kind:Int} {d:Nat} {t:T},G7.ExV e kind d t->T.smt t:=fun h=>aA6 hfd hf hn hp hpn h
 induction h with
 |block d l hl h ih=>exact dS (k4 _ (by decide) (by decide)) sm0 sm0 ih
 |set d v t a h hpk ha=>exact dS (k4 _ (by decide) (by decide)) (oZ h (by omega)) sm0 (wC (hx ha))
 |put d v t a b h h2 ha hb=>exact dS (k4 _ (by decide) (by decide)) (oZ h (by omega)) sm0 (wB (hx ha) (hx hb))
 |fill d v k t c a h h3 hc hpk ha=>
  refine dS (k4 _ (by decide) (by decide)) (oZ h (by omega)) (oZ hc ?_) (wC (hx ha))
  have:=hv.2 t (aj h)
  cases this with
  |pl k h=>simp [T.kids]
  |arr n h1 h2=>simp [T.kids]
  |rcd es h1 h2 h=>simp only [T.kids];omega
 |ite d a b c ha hb kb hc kc i1 i2=>exact dS (k4 _ (by decide) (by decide)) sm0 sm0 (aCh (hx ha) i1 i2)
 |loop d a b ha hb kb i1=>exact dS (k4 _ (by decide) (by decide)) sm0 sm0 (wB (hx ha) i1)
 |one d k a hk ha=>exact dS (by rcases hk with rfl|rfl|rfl<;>exact ⟨by decide,by decide⟩) sm0 sm0 (wC (hx ha))
 |try' d v t b c h h0 hb kb hc kc i1 i2=>exact dS (k4 _ (by decide) (by decide)) (oZ h (by omega)) sm0 (wB i1 i2)
 |send d c a h1 h2 ha=>exact dS (k4 _ (by decide) (by decide)) ⟨by omega,by omega⟩ sm0 (wC (hx ha))
 |spawn d f fd ags h hl ha=>
  have hfd':=hfd fd (aj (hf ▸ h))
  exact dS (k4 _ (by decide) (by decide)) (oZ h (by rw [hf];omega)) sm0 (uB (e:=e) (d:=d) hfd'.2.1 hl fun i a t h1 h2=>hx (ha i a t h1 h2))
 |skip d=>exact dS (k4 _ (by decide) (by decide)) sm0 sm0 oO
end
theorem WS {fs:List (Nat × List T)} {bs:List T} {t:T} (h:t∈List.zipWith G7.funT fs bs):∃ (i:Nat) (fd:Nat × List T) (b:T),fs[i]? =some fd/\bs[i]? =some b/\t=G7.funT fd b:=by
 obtain ⟨i,hi⟩:=je h
 rw [List.getElem?_zipWith] at hi
 split at hi
 .rename_i a b h1 h2
  exact ⟨i,a,b,h1,h2,(ir hi).symm⟩
 .cases hi
theorem TP {t:T} {pn:Int} {fs:List (Nat × List T)} {bs:List T} (h:G7.ProgV t pn fs bs):T.smt t:=by
 rw [h.eq]
 refine dS ⟨by decide,by decide⟩ ⟨by have:=h.p0;omega,by have:=h.p2;omega⟩ sm0 fun t ht=>?_
 obtain ⟨i,fd,b,h1,h2,rfl⟩:=WS ht
 obtain ⟨f1,f2,f3,f4,f5⟩:=h.fd fd (aj h1)
 refine dS ⟨by decide,by decide⟩ ⟨by omega,by omega⟩ sm0 fun t ht=>?_
 rcases bo.1 ht with ht|ht
 .exact ZZ (f4 t ht)
 .rw [bd.1 ht]
  exact aAk h.fd rfl h.n3 h.p2 rfl (h.b i b h2).1
end Go.Proofs.YtggflhbigolakaaGreatDoor
