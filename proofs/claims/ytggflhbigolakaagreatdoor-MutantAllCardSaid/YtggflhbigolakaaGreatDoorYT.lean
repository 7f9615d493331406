import Derived.Test.YtggflhbigolakaaGreatDoorYH
set_option linter.unusedVariables false
namespace Go.Proofs.YtggflhbigolakaaGreatDoor
open Go.AM
attribute [local irreducible] cG bG bI bL bW bZ aQ aV bN
namespace G7
def pk (k:Int):Prop:=k=0\/k=1
inductive TyV:T->Prop
 |pl (k:Int) (h:pk k):TyV (.mk k 0 0 [])
 |arr (n:Int) (h1:1<=n) (h2:n<=4):TyV (.mk 2 n 0 [])
 |rcd (es:List T) (h1:1<=es.length) (h2:es.length<=3) (h:∀ e∈es,∃ k,pk k/\e=.mk k 0 0 []):TyV (.mk 3 0 0 es)
structure EnvV (e:Env):Prop where
 n1:1<=e.fs.length
 n3:e.fs.length<=3
 fd:∀ fd∈e.fs,fd.1<=2/\fd.1<=fd.2.length/\fd.2.length<=5/\(∀ t∈fd.2,TyV t)/\∀ i t,i<fd.1->fd.2[i]? =some t->pk t.kind
 pn1:e.con=true->1<=e.pn
 pn2:e.pn<=2
theorem EnvV.vars {e:Env} (h:EnvV e):e.vars.length<=5/\∀ t∈e.vars,TyV t:=by
 rw [Env.vars]
 split
 .rename_i f hf
  have:=h.fd f (aj hf)
  exact ⟨this.2.2.1,this.2.2.2.1⟩
 .exact ⟨by simp,fun t ht=>by cases ht⟩
inductive ExV (e:Env):Int->Nat->T->Prop
 |num (d:Nat) (n:Int) (h1: -8<=n) (h2:n<=7):ExV e 0 (d+1) (.mk 4 n 0 [])
 |truth (d:Nat) (n:Int) (h1:0<=n) (h2:n<=1):ExV e 1 (d+1) (.mk 5 n 0 [])
 |var (d:Nat) (kind:Int) (v:Nat) (t:T) (h:e.vars[v]? =some t) (hk:t.kind=kind) (hp:pk kind):ExV e kind (d+1) (.mk 6 v 0 [])
 |fld (d:Nat) (kind:Int) (v k:Nat) (t c:T) (h:e.vars[v]? =some t) (h3:t.kind=3) (hc:t.kids[k]? =some c) (hk:c.kind=kind) (hp:pk kind):ExV e kind (d+1) (.mk 8 v k [])
 |elem (d:Nat) (v:Nat) (t a:T) (h:e.vars[v]? =some t) (h2:t.kind=2) (ha:ExV e 0 d a):ExV e 0 (d+1) (.mk 7 v 0 [a])
 |call (d:Nat) (f:Nat) (fd:Nat × List T) (ags:List T) (h:e.fs[f]? =some fd) (hl:ags.length=fd.1) (ha:∀ (i:Nat) (a t:T),ags[i]? =some a->fd.2[i]? =some t->ExV e t.kind d a):ExV e 0 (d+1) (.mk 11 f 0 ags)
 |recv (d:Nat) (c:Int) (h1:0<=c) (h2:c<e.pn):ExV e 0 (d+1) (.mk 12 c 0 [])
 |neg (d:Nat) (a:T) (ha:ExV e 1 d a):ExV e 1 (d+1) (.mk 10 0 0 [a])
 |bin (d:Nat) (op:Int) (a b:T) (h1:0<=op) (h2:op<=9) (ha:ExV e 0 d a) (hb:ExV e 0 d b):ExV e 0 (d+1) (.mk 9 op 0 [a,b])
 |cmp (d:Nat) (op:Int) (a b:T) (h1:10<=op) (h2:op<=11) (ha:ExV e 0 d a) (hb:ExV e 0 d b):ExV e 1 (d+1) (.mk 9 op 0 [a,b])
 |con (d:Nat) (op:Int) (a b:T) (h1:12<=op) (h2:op<=13) (ha:ExV e 1 d a) (hb:ExV e 1 d b):ExV e 1 (d+1) (.mk 9 op 0 [a,b])
theorem ExV.up {e:Env} {kind:Int} {d D:Nat} {t:T} (h:ExV e kind d t):d<=D->ExV e kind D t:=by
 induction h generalizing D with
 |num d n h1 h2=>intro hd;obtain ⟨D,rfl⟩:∃ x,D=x+1:=⟨D - 1,by omega⟩;exact .num _ _ h1 h2
 |truth d n h1 h2=>intro hd;obtain ⟨D,rfl⟩:∃ x,D=x+1:=⟨D - 1,by omega⟩;exact .truth _ _ h1 h2
 |var d kind v t h hk hp=>intro hd;obtain ⟨D,rfl⟩:∃ x,D=x+1:=⟨D - 1,by omega⟩;exact .var _ _ _ _ h hk hp
 |fld d kind v k t c h h3 hc hk hp=>intro hd;obtain ⟨D,rfl⟩:∃ x,D=x+1:=⟨D - 1,by omega⟩;exact .fld _ _ _ _ _ _ h h3 hc hk hp
 |elem d v t a h h2 ha ih=>intro hd;obtain ⟨D,rfl⟩:∃ x,D=x+1:=⟨D - 1,by omega⟩;exact .elem _ _ _ _ h h2 (ih (by omega))
 |call d f fd ags h hl ha ih=>intro hd;obtain ⟨D,rfl⟩:∃ x,D=x+1:=⟨D - 1,by omega⟩;exact .call _ _ _ _ h hl fun i a t h1 h2=>ih i a t h1 h2 (by omega)
 |recv d c h1 h2=>intro hd;obtain ⟨D,rfl⟩:∃ x,D=x+1:=⟨D - 1,by omega⟩;exact .recv _ _ h1 h2
 |neg d a ha ih=>intro hd;obtain ⟨D,rfl⟩:∃ x,D=x+1:=⟨D - 1,by omega⟩;exact .neg _ _ (ih (by omega))
 |bin d op a b h1 h2 ha hb i1 i2=>intro hd;obtain ⟨D,rfl⟩:∃ x,D=x+1:=⟨D - 1,by omega⟩;exact .bin _ _ _ _ h1 h2 (i1 (by omega)) (i2 (by omega))
 |cmp d op a b h1 h2 ha hb i1 i2=>intro hd;obtain ⟨D,rfl⟩:∃ x,D=x+1:=⟨D - 1,by omega⟩;exact .cmp _ _ _ _ h1 h2 (i1 (by omega)) (i2 (by omega))
 |con d op a b h1 h2 ha hb i1 i2=>intro hd;obtain ⟨D,rfl⟩:∃ x,D=x+1:=⟨D - 1,by omega⟩;exact .con _ _ _ _ h1 h2 (i1 (by omega)) (i2 (by omega))
inductive StV (e:Env):Nat->T->Prop
 |block (d:Nat) (l:List T) (hl:l.length<=5) (h:∀ t∈l,StV e d t):StV e (d+1) (.mk 13 0 0 l)
 |set (d:Nat) (v:Nat) (t a:T) (h:e.vars[v]? =some t) (hp:pk t.kind) (ha:ExV e t.kind d a):StV e (d+1) (.mk 14 v 0 [a])
 |put (d:Nat) (v:Nat) (t a b:T) (h:e.vars[v]? =some t) (h2:t.kind=2) (ha:ExV e 0 d a) (hb:ExV e 0 d b):StV e (d+1) (.mk 15 v 0 [a,b])
 |fill (d:Nat) (v k:Nat) (t c a:T) (h:e.vars[v]? =some t) (h3:t.kind=3) (hc:t.kids[k]? =some c) (hp:pk c.kind) (ha:ExV e c.kind d a):StV e (d+1) (.mk 16 v k [a])
 |ite (d:Nat) (a b c:T) (ha:ExV e 1 d a) (hb:StV e d b) (kb:b.kind=13) (hc:StV e d c) (kc:c.kind=13):StV e (d+1) (.mk 17 0 0 [a,b,c])
 |loop (d:Nat) (a b:T) (ha:ExV e 1 d a) (hb:StV e d b) (kb:b.kind=13):StV e (d+1) (.mk 18 0 0 [a,b])
 |one (d:Nat) (k:Int) (a:T) (hk:k=19\/k=20\/k=24) (ha:ExV e 0 d a):StV e (d+1) (.mk k 0 0 [a])
 |try' (d:Nat) (v:Nat) (t b c:T) (h:e.vars[v]? =some t) (h0:t.kind=0) (hb:StV e d b) (kb:b.kind=13) (hc:StV e d c) (kc:c.kind=13):StV e (d+1) (.mk 21 v 0 [b,c])
 |send (d:Nat) (c:Int) (a:T) (h1:0<=c) (h2:c<e.pn) (ha:ExV e 0 d a):StV e (d+1) (.mk 22 c 0 [a])
 |spawn (d:Nat) (f:Nat) (fd:Nat × List T) (ags:List T) (h:e.fs[f]? =some fd) (hl:ags.length=fd.1) (ha:∀ (i:Nat) (a t:T),ags[i]? =some a->fd.2[i]? =some t->ExV e t.kind d a):StV e (d+1) (.mk 23 f 0 ags)
 |skip (d:Nat):StV e (d+1) (.mk 25 0 0 [])
theorem StV.up {e:Env} {d D:Nat} {t:T} (h:StV e d t):d<=D->StV e D t:=by
 induction h generalizing D with
 |block d l hl h ih=>intro hd;obtain ⟨D,rfl⟩:∃ x,D=x+1:=⟨D - 1,by omega⟩;exact .block _ _ hl fun t ht=>ih t ht (by omega)
 |set d v t a h hp ha=>intro hd;obtain ⟨D,rfl⟩:∃ x,D=x+1:=⟨D - 1,by omega⟩;exact .set _ _ _ _ h hp (ha.up (by omega))
 |put d v t a b h h2 ha hb=>intro hd;obtain ⟨D,rfl⟩:∃ x,D=x+1:=⟨D - 1,by omega⟩;exact .put _ _ _ _ _ h h2 (ha.up (by omega)) (hb.up (by omega))
 |fill d v k t c a h h3 hc hp ha=>intro hd;obtain ⟨D,rfl⟩:∃ x,D=x+1:=⟨D - 1,by omega⟩;exact .fill _ _ _ _ _ _ h h3 hc hp (ha.up (by omega))
 |ite d a b c ha hb kb hc kc i1 i2=>intro hd;obtain ⟨D,rfl⟩:∃ x,D=x+1:=⟨D - 1,by omega⟩;exact .ite _ _ _ _ (ha.up (by omega)) (i1 (by omega)) kb (i2 (by omega)) kc
 |loop d a b ha hb kb i1=>intro hd;obtain ⟨D,rfl⟩:∃ x,D=x+1:=⟨D - 1,by omega⟩;exact .loop _ _ _ (ha.up (by omega)) (i1 (by omega)) kb
 |one d k a hk ha=>intro hd;obtain ⟨D,rfl⟩:∃ x,D=x+1:=⟨D - 1,by omega⟩;exact .one _ _ _ hk (ha.up (by omega))
 |try' d v t b c h h0 hb kb hc kc i1 i2=>intro hd;obtain ⟨D,rfl⟩:∃ x,D=x+1:=⟨D - 1,by omega⟩;exact .try' _ _ _ _ _ h h0 (i1 (by omega)) kb (i2 (by omega)) kc
 |send d c a h1 h2 ha=>intro hd;obtain ⟨D,rfl⟩:∃ x,D=x+1:=⟨D - 1,by omega⟩;exact .send _ _ _ h1 h2 (ha.up (by omega))
 |spawn d f fd ags h hl ha=>intro hd;obtain ⟨D,rfl⟩:∃ x,D=x+1:=⟨D - 1,by omega⟩;exact .spawn _ _ _ _ h hl fun i a t h1 h2=>(ha i a t h1 h2).up (by omega)
 |skip d=>intro hd;obtain ⟨D,rfl⟩:∃ x,D=x+1:=⟨D - 1,by omega⟩;exact .skip _
def oU:Nat->Int
 |0=>1
 |d+1=>1+2*oU d
theorem j1:∀ d,1<=oU d
 |0=>by decide
 |d+1=>by have:=j1 d;rw [oU];omega
theorem dr_2 {e:Env} {n:Int} {s s1:St} {z:Int} (h:dr e n s=(z,s1)):s1.2=s.2:=by
 simp only [dr,db] at h
 rw [<- h.2]
theorem pC {e:Env} {kind:Int} {s s1:St} {z:Int} (h:pick e kind s=(z,s1)):s1.2=s.2:=by
 simp only [pick,db] at h
 rw [<- h.2]
 rfl
theorem PL {e:Env} {kind v k:Int} {s s1:St} (h:field e kind s=((v,k),s1)):s1.2=s.2/\(v<0\/∃ (j i:Nat) (t c:T),v=j/\k=i/\e.vars[j]? =some t/\t.kind=3/\t.kids[i]? =some c/\c.kind=kind):=by
 rw [field] at h
 rcases hp:pick e 3 s with ⟨v1,s2⟩
 rw [hp] at h
 simp only at h
 have h2:=pC hp
 split at h
 .rename_i hv
  simp only [db] at h
  obtain ⟨⟨rfl,rfl⟩,rfl⟩:=h
  exact ⟨h2,.inl (by decide)⟩
 .rename_i hv
  rcases pick_cases hp with rfl|⟨j,t,rfl,ht,htk⟩
  .exact absurd (by decide:(-1:Int)<0) hv
  .simp only [ax,ht] at h
   rcases hd:dr e 3 s2 with ⟨fr,s3⟩
   rw [hd] at h
   simp only [db] at h
   obtain ⟨h3,rfl⟩:=h
   refine ⟨by rw [dr_2 hd,h2],?_⟩
   split at h3
   .simp only [db] at h3
    exact .inl (by omega)
   .rename_i hn
    simp only [db] at h3
    rcases pickL_cases t.kids kind fr (dr_b (by decide) hd).1 t.kids.length 0 with hm|⟨i,c,hi,hc,hck⟩
    .rw [hm] at hn;exact absurd (by decide:(-1:Int)<0) hn
    .exact .inr ⟨j,i,t,c,h3.1.symm,by rw [<- h3.2,hi],ht,htk,hc,hck⟩
theorem gC {k n:Int} {es:List T} {s s1:St} {t:T} (h:nd k n es s=(t,s1)) (h1: -2000000<=s.2) (h2:s.2<=2000000):t=.mk k n 0 es/\s1.2=s.2 - 1:=by
 simp only [nd,db] at h
 obtain ⟨rfl,rfl⟩:=h
 exact ⟨rfl,bC (by omega) (by omega)⟩
def ExG (e:Env) (kind:Int) (D:Nat) (s:St) (r:T × St):Prop:=ExV e kind (D+1) r.1/\r.2.2=s.2 - T.size r.1/\(T.size r.1:Int)<=oU D
theorem iJ (k n m:Int):T.size (.mk k n m [])=1:=rfl
theorem oJ (k n m:Int) (a:T):T.size (.mk k n m [a])=1+T.size a:=by simp [T.size,T.sizes]
theorem qY (k n m:Int) (a b:T):T.size (.mk k n m [a,b])=1+T.size a+T.size b:=by simp [T.size,T.sizes];omega
theorem aBU (k n m:Int) (a b c:T):T.size (.mk k n m [a,b,c])=1+T.size a+T.size b+T.size c:=by simp [T.size,T.sizes];omega
theorem P4 {e:Env} (kind:Int) (hk:pk kind) (D:Nat) (s:St) (h1: -1000000<=s.2) (h2:s.2<=1000000):ExG e kind D s (leaf2 e kind s):=by
 have hD:=j1 D
 rw [leaf2]
 rcases hk with rfl|rfl
 .rw [if_neg (by decide)]
  rcases hd:dr e 10 s with ⟨z,s1⟩
  have hb:=dr_b (by decide) hd
  have hs:=dr_2 hd
  rcases hn:nd 4 (tab.getD z.toNat 0) [] s1 with ⟨t,s2⟩
  obtain ⟨rfl,h4⟩:=gC hn (by omega) (by omega)
  have ht: -8<=tab.getD z.toNat 0/\tab.getD z.toNat 0<=7:=by
   have:z.toNat<10:=by omega
   generalize z.toNat=j at this
   revert j;decide
  simp only [hn]
  exact ⟨.num _ _ ht.1 ht.2,by rw [iJ];simp only;omega,by rw [iJ];omega⟩
 .rw [if_pos (by decide)]
  rcases hd:dr e 2 s with ⟨z,s1⟩
  have hb:=dr_b (by decide) hd
  have hs:=dr_2 hd
  rcases hn:nd 5 z [] s1 with ⟨t,s2⟩
  obtain ⟨rfl,h4⟩:=gC hn (by omega) (by omega)
  simp only [hn]
  exact ⟨.truth _ _ hb.1 (by omega),by rw [iJ];simp only;omega,by rw [iJ];omega⟩
theorem ExG.of_eq {e:Env} {kind:Int} {D:Nat} {s s':St} {r:T × St} (h:ExG e kind D s r) (hs:s.2=s'.2):ExG e kind D s' r:=by
 unfold ExG at h ⊢
 rw [<- hs];exact h
theorem zH {e:Env} (kind:Int) (hk:pk kind) (D:Nat) (s:St) (h1: -1000000<=s.2) (h2:s.2<=1000000):ExG e kind D s (leaf e kind s):=by
 have hD:=j1 D
 rw [leaf]
 rcases hd:dr e 3 s with ⟨z,s1⟩
 have hs:=dr_2 hd
 simp only
 split
 .rcases hp:pick e kind s1 with ⟨v,s2⟩
  have hs2:=pC hp
  simp only
  split
  .rename_i hv
   rcases pick_cases hp with rfl|⟨j,t,rfl,ht,htk⟩
   .exact absurd hv (by decide)
   .rcases hn:nd 6 (j:Int) [] s2 with ⟨t',s3⟩
    obtain ⟨rfl,h4⟩:=gC hn (by omega) (by omega)
    exact ⟨.var _ _ _ _ ht htk hk,by rw [iJ];simp only;omega,by rw [iJ];omega⟩
  .exact (P4 kind hk D s2 (by omega) (by omega)).of_eq (by omega)
 .exact (P4 kind hk D s1 (by omega) (by omega)).of_eq (by omega)
theorem W3 {e:Env} {D:Nat} (ex:Int->St->T × St) (B:Int) (hex:∀ kd s,pk kd->B<=s.2->s.2<=1000000->ExG e kd D s (ex kd s)):∀ (ts:List T) (s:St),(∀ t∈ts,pk t.kind)->B+oU D*ts.length<=s.2->s.2<=1000000->(args ex ts s).1.length=ts.length/\(∀ (i:Nat) (a t:T),(args ex ts s).1[i]? =some a->ts[i]? =some t->ExV e t.kind (D+1) a)/\(args ex ts s).2.2=s.2 - T.sizes (args ex ts s).1/\(T.sizes (args ex ts s).1:Int)<=oU D*ts.length
 | [],s,_,_,_=>⟨rfl,fun i a t h=>by simp [args] at h,by simp [args,T.sizes],by simp [args,T.sizes]⟩
 |t::ts,s,hk,h1,h2=>by
  have hD:=j1 D
  have hmul:oU D*((t::ts).length:Int)=oU D*ts.length+oU D:=by
   rw [af,Int.natCast_add,Int.mul_add];simp
  have h0:0<=oU D*(ts.length:Int):=Int.mul_nonneg (by omega) (by omega)
  rw [hmul] at h1
  obtain ⟨g1,g2,g3⟩:=hex t.kind s (hk t (by simp)) (by omega) h2
  rw [args]
  rcases hx:ex t.kind s with ⟨a,s1⟩
  rw [hx] at g1 g2 g3
  simp only at g1 g2 g3
  obtain ⟨i1,i2,i3,i4⟩:=W3 ex B hex ts s1 (fun t ht=>hk t (by simp [ht])) (by omega) (by omega)
  simp only
  rcases hy:args ex ts s1 with ⟨l,s2⟩
  rw [hy] at i1 i2 i3 i4
  simp only at i1 i2 i3 i4 ⊢
  refine ⟨by simp [i1],fun i a' t' ha ht=>?_,by rw [T.sizes];omega,by rw [T.sizes,hmul];omega⟩
  cases i with
  |zero=>
   simp only [fw,ao] at ha ht
   subst ha ht;exact g1
  |succ i=>
   simp only [gt] at ha ht
   exact i2 i a' t' ha ht
def CaG (e:Env) (kind:Int) (D:Nat) (s:St) (r:T × St):Prop:=(∃ (f:Nat) (fd:Nat × List T) (ags:List T),r.1=.mk kind f 0 ags/\e.fs[f]? =some fd/\ags.length=fd.1/\∀ (i:Nat) (a t:T),ags[i]? =some a->fd.2[i]? =some t->ExV e t.kind (D+1) a)/\r.2.2=s.2 - T.size r.1/\(T.size r.1:Int)<=oU (D+1)
theorem RA {e:Env} (he:EnvV e) {D:Nat} (ex:Int->St->T × St) (B:Int) (hB: -1900000<=B) (hex:∀ kd s,pk kd->B<=s.2->s.2<=1000000->ExG e kd D s (ex kd s)) (kind:Int) (f:Nat) (hf:f<e.fs.length) (s:St) (h1:B+2*oU D<=s.2) (h2:s.2<=1000000):CaG e kind D s (callEnd e ex kind f s):=by
 have hD:=j1 D
 obtain ⟨fd,hfd⟩:∃ fd,e.fs[f]? =some fd:=⟨_,ah hf⟩
 obtain ⟨q1,q2,q3,q4,q5⟩:=he.fd fd (aj hfd)
 rw [callEnd,hfd]
 simp only
 have htl:(fd.2.take fd.1).length=fd.1:=by rw [cr];omega
 have hm:oU D*(fd.1:Int)<=2*oU D:=by
  have:(fd.1:Int)=0\/(fd.1:Int)=1\/(fd.1:Int)=2:=by omega
  rcases this with h|h|h<;>rw [h]<;>omega
 obtain ⟨i1,i2,i3,i4⟩:=W3 (D:=D) ex B hex (fd.2.take fd.1) s (fun t ht=>by
  obtain ⟨i,hi⟩:=je ht
  rw [ep] at hi
  split at hi
  .exact q5 i t (by omega) hi
  .cases hi) (by rw [htl];omega) h2
 rcases hy:args ex (fd.2.take fd.1) s with ⟨l,s1⟩
 rw [hy] at i1 i2 i3 i4
 rw [htl] at i1 i4
 simp only at i1 i2 i3 i4 ⊢
 rcases hn:nd kind (f:Int) l s1 with ⟨t,s2⟩
 obtain ⟨rfl,h4⟩:=gC hn (by omega) (by omega)
 refine ⟨⟨f,fd,l,rfl,hfd,i1,fun i a t ha ht=>i2 i a t ha ?_⟩,by rw [T.size];simp only;omega,by rw [T.size,oU];omega⟩
 have:=(aq.1 ha).1
 rw [ep,if_pos (by omega),ht]
theorem VT {e:Env} (he:EnvV e) {D:Nat} (ex:Int->St->T × St) (B:Int) (hB: -1900000<=B) (hex:∀ kd s,pk kd->B<=s.2->s.2<=1000000->ExG e kd D s (ex kd s)) (kind:Int) (s:St) (h1:B+2*oU D<=s.2) (h2:s.2<=1000000):CaG e kind D s (call e ex kind s):=by
 have key:∀ (f:Nat) (s':St),s'.2=s.2->f<e.fs.length->CaG e kind D s (callEnd e ex kind f s'):=fun f s' hs hf=>by
  have:=RA he ex B hB hex kind f hf s' (by omega) (by omega)
  unfold CaG at this ⊢
  rw [<- hs];exact this
 have hn:=he.n1
 rw [call]
 rcases hd:dr e e.fs.length s with ⟨f,s1⟩
 have hb:=dr_b (by omega) hd
 have hs:=dr_2 hd
 simp only
 split
 .rename_i h3
  rcases hd2:dr e 8 s1 with ⟨z,s2⟩
  have hs2:=dr_2 hd2
  simp only
  split
  .rcases hd3:dr e ((e.fs.length:Int) - 1) s2 with ⟨y,s3⟩
   have hb3:=dr_b (by omega) hd3
   have hs3:=dr_2 hd3
   simp only
   exact key _ _ (by omega) (by omega)
  .exact key _ _ (by omega) (by omega)
 .exact key _ _ (by omega) (by omega)
theorem SI {e:Env} {D:Nat} (ex:Int->Int->St->T × St) (depth B:Int) (hB: -1900000<=B) (hex:∀ kd s,pk kd->B<=s.2->s.2<=1000000->ExG e kd D s (ex kd (depth - 1) s)) (op side:Int) (hs:pk side) (s:St) (h1:B+2*oU D<=s.2) (h2:s.2<=1000000):∃ a b,(two ex op side depth s).1=.mk 9 op 0 [a,b]/\ExV e side (D+1) a/\ExV e side (D+1) b/\(two ex op side depth s).2.2=s.2 - T.size (two ex op side depth s).1/\(T.size (two ex op side depth s).1:Int)<=oU (D+1):=by
 have hD:=j1 D
 rw [two]
 obtain ⟨g1,g2,g3⟩:=hex side s hs (by omega) h2
 rcases hx:ex side (depth - 1) s with ⟨a,s1⟩
 rw [hx] at g1 g2 g3
 simp only at g1 g2 g3 ⊢
 obtain ⟨i1,i2,i3⟩:=hex side s1 hs (by omega) (by omega)
 rcases hy:ex side (depth - 1) s1 with ⟨b,s2⟩
 rw [hy] at i1 i2 i3
 simp only at i1 i2 i3 ⊢
 rcases hn:nd 9 op [a,b] s2 with ⟨t,s3⟩
 obtain ⟨rfl,h4⟩:=gC hn (by omega) (by omega)
 exact ⟨a,b,rfl,g1,i1,by rw [qY];simp only;omega,by rw [qY,oU];omega⟩
theorem aCz {e:Env} {D:Nat} (ex:Int->Int->St->T × St) (depth B:Int) (hB: -1900000<=B) (hex:∀ kd s,pk kd->B<=s.2->s.2<=1000000->ExG e kd D s (ex kd (depth - 1) s)) (kind:Int) (hk:pk kind) (s:St) (h1:B+2*oU D<=s.2) (h2:s.2<=1000000):ExG e kind (D+1) s (bin e ex kind depth s):=by
 rw [bin]
 rcases hk with rfl|rfl
 .rw [if_pos (by decide)]
  rcases hd:dr e 12 s with ⟨z,s1⟩
  have hb:=dr_b (by decide) hd
  have hs:=dr_2 hd
  have ht:0<=ops1.getD z.toNat 0/\ops1.getD z.toNat 0<=9:=by
   have:z.toNat<12:=by omega
   generalize z.toNat=j at this
   revert j;decide
  simp only
  obtain ⟨a,b,g0,g1,g2,g3,g4⟩:=SI ex depth B hB hex (ops1.getD z.toNat 0) 0 (.inl rfl) s1 (by omega) (by omega)
  refine ⟨by rw [g0];exact .bin _ _ _ _ ht.1 ht.2 g1 g2,by omega,g4⟩
 .rw [if_neg (by decide)]
  rcases hd:dr e 5 s with ⟨z,s1⟩
  have hb:=dr_b (by decide) hd
  have hs:=dr_2 hd
  have ht:10<=ops2.getD z.toNat 0/\ops2.getD z.toNat 0<=13:=by
   have:z.toNat<5:=by omega
   generalize z.toNat=j at this
   revert j;decide
  simp only
  split
  .obtain ⟨a,b,g0,g1,g2,g3,g4⟩:=SI ex depth B hB hex (ops2.getD z.toNat 0) 1 (.inr rfl) s1 (by omega) (by omega)
   refine ⟨by rw [g0];exact .con _ _ _ _ (by omega) ht.2 g1 g2,by omega,g4⟩
  .obtain ⟨a,b,g0,g1,g2,g3,g4⟩:=SI ex depth B hB hex (ops2.getD z.toNat 0) 0 (.inl rfl) s1 (by omega) (by omega)
   refine ⟨by rw [g0];exact .cmp _ _ _ _ ht.1 (by omega) g1 g2,by omega,g4⟩
theorem YR {e:Env} (he:EnvV e) {D:Nat} (ex:Int->Int->St->T × St) (kind depth B:Int) (hB: -1900000<=B) (hB2: -1000000<=B+2*oU D) (hk:pk kind) (hex:∀ kd dd s,dd=depth - 1\/dd=depth - 2->pk kd->B<=s.2->s.2<=1000000->ExG e kd D s (ex kd dd s)) (s:St) (h1:B+2*oU D<=s.2) (h2:s.2<=1000000):ExG e kind (D+1) s (exprS e ex kind depth s):=by
 have hD:=j1 D
 have hE1:oU (D+1)=1+2*oU D:=rfl
 have hex1:=fun kd s=>hex kd (depth - 1) s (.inl rfl)
 rw [exprS]
 split
 .exact zH kind hk _ s (by omega) h2
 split
 .exact zH kind hk _ s (by omega) h2
 rcases hd:dr e 12 s with ⟨z,s1⟩
 have hb:=dr_b (by decide) hd
 have hs:=dr_2 hd
 have hbin:∀ s',s'.2=s.2->ExG e kind (D+1) s (bin e ex kind depth s'):=fun s' hs'=>(aCz ex depth B hB hex1 kind hk s' (by omega) (by omega)).of_eq hs'
 simp only
 split
 .exact (zH kind hk _ s1 (by omega) (by omega)).of_eq hs
 split
 .rcases hf:field e kind s1 with ⟨⟨v,k⟩,s2⟩
  obtain ⟨hs2,hv⟩:=PL hf
  simp only
  split
  .rename_i hv0
   rcases hv with hv|⟨j,i,t,c,rfl,rfl,q1,q2,q3,q4⟩
   .omega
   .rcases hn:nd 8 (j:Int) [] s2 with ⟨t',s3⟩
    obtain ⟨rfl,h4⟩:=gC hn (by omega) (by omega)
    exact ⟨.fld _ _ _ _ _ _ q1 q2 q3 q4 hk,by rw [setM,iJ];simp only;omega,by rw [setM,iJ];omega⟩
  .exact hbin s2 (by omega)
 split
 .rename_i h44
  have hk0:kind=0:=by simp only [ae,beq_iff_eq] at h44;exact h44.2
  subst hk0
  rcases hp:pick e 2 s1 with ⟨v,s2⟩
  have hs2:=pC hp
  simp only
  split
  .rename_i hv0
   rcases pick_cases hp with rfl|⟨j,t,rfl,ht,htk⟩
   .exact absurd hv0 (by decide)
   .obtain ⟨g1,g2,g3⟩:=hex 0 (depth - 2) s2 (.inr rfl) (.inl rfl) (by omega) (by omega)
    rcases hx:ex 0 (depth - 2) s2 with ⟨a,s3⟩
    rw [hx] at g1 g2 g3
    simp only at g1 g2 g3 ⊢
    rcases hn:nd 7 (j:Int) [a] s3 with ⟨t',s4⟩
    obtain ⟨rfl,h4⟩:=gC hn (by omega) (by omega)
    exact ⟨.elem _ _ _ _ ht htk g1,by rw [oJ];simp only;omega,by rw [oJ];omega⟩
  .exact hbin s2 (by omega)
 split
 .rename_i h55
  have hk0:kind=0:=by simp only [ae,beq_iff_eq] at h55;exact h55.2
  subst hk0
  obtain ⟨⟨f,fd,ags,g0,g1,g2,g3⟩,g4,g5⟩:=VT he (fun kd s=>ex kd (depth - 1) s) B hB hex1 11 s1 (by omega) (by omega)
  exact ⟨by rw [g0];exact .call _ _ _ _ g1 g2 g3,by omega,g5⟩
 split
 .rename_i h66
  simp only [ae,beq_iff_eq] at h66
  obtain ⟨_,hcon,rfl⟩:=h66
  have hpn:=he.pn1 hcon
  rcases hd2:dr e e.pn s1 with ⟨c,s2⟩
  have hb2:=dr_b (by omega) hd2
  have hs2:=dr_2 hd2
  simp only
  rcases hn:nd 12 c [] s2 with ⟨t',s3⟩
  obtain ⟨rfl,h4⟩:=gC hn (by omega) (by omega)
  exact ⟨.recv _ _ hb2.1 hb2.2,by rw [iJ];simp only;omega,by rw [iJ];omega⟩
 split
 .rename_i h77
  simp only [ae,beq_iff_eq] at h77
  obtain ⟨_,rfl⟩:=h77
  obtain ⟨g1,g2,g3⟩:=hex1 1 s1 (.inr rfl) (by omega) (by omega)
  rcases hx:ex 1 (depth - 1) s1 with ⟨a,s2⟩
  rw [hx] at g1 g2 g3
  simp only at g1 g2 g3 ⊢
  rcases hn:nd 10 0 [a] s2 with ⟨t',s3⟩
  obtain ⟨rfl,h4⟩:=gC hn (by omega) (by omega)
  exact ⟨.neg _ _ g1,by rw [oJ];simp only;omega,by rw [oJ];omega⟩
 .exact hbin s1 hs
def UF:Nat->Int
 |0=> -1000000
 |d+1=>UF d+2*oU d
theorem G5:∀ d, -1000000<=UF d
 |0=>by decide
 |d+1=>by have:=G5 d;have:=j1 d;rw [UF];omega
theorem N3 {e:Env} (he:EnvV e):∀ (d D:Nat) (kind depth:Int) (s:St),depth<=D->D<=d->pk kind->UF D<=s.2->s.2<=1000000->ExG e kind D s (expr e d kind depth s)
 |0,D,kind,depth,s,_,hD,hk,h1,h2=>by
  obtain rfl:D=0:=by omega
  rw [expr];exact zH kind hk _ s h1 h2
 |d+1,D,kind,depth,s,hdp,hD,hk,h1,h2=>by
  rw [expr]
  have:=G5 D
  cases D with
  |zero=>
   rw [exprS,if_pos (by omega)]
   exact zH kind hk _ s (by omega) h2
  |succ D=>
   have:=G5 D
   have:=j1 D
   rw [UF] at h1
   exact YR he _ kind depth (UF D) (by omega) (by omega) hk (fun kd dd s hdd hkd g1 g2=>N3 he d D kd dd s (by omega) (by omega) hkd g1 g2) s h1 h2
theorem nV {e:Env} (he:EnvV e) (D:Nat) (hD:D<=3) (kind:Int) (hk:pk kind) (s s1:St) (t:T) (h1: -900000<=s.2) (h2:s.2<=1000000) (h:expr e 3 kind D s=(t,s1)):ExV e kind (D+1) t/\s1.2=s.2 - T.size t/\1<=T.size t/\(T.size t:Int)<=oU D:=by
 have h0:UF D<=s.2:=by
  have:D=0\/D=1\/D=2\/D=3:=by omega
  rcases this with rfl|rfl|rfl|rfl<;>simp only [UF,oU]<;>omega
 have:=N3 he 3 D kind D s (Int.le_refl _) hD hk h0 h2
 rw [h] at this
 exact ⟨this.1,this.2.1,by cases t;rw [T.size];omega,this.2.2⟩
theorem aCx {e:Env} (he:EnvV e) (D:Nat) (hD:D<=2) (s s1:St) (t:T) (h1: -900000<=s.2) (h2:s.2<=1000000) (h:cal e 23 (D+1:Nat) s=(t,s1)):(∃ (f:Nat) (fd:Nat × List T) (ags:List T),t=.mk 23 f 0 ags/\e.fs[f]? =some fd/\ags.length=fd.1/\∀ (i:Nat) (a t:T),ags[i]? =some a->fd.2[i]? =some t->ExV e t.kind (D+1) a)/\s1.2=s.2 - T.size t/\(T.size t:Int)<=oU (D+1):=by
 have h0:UF D+2*oU D<=s.2:=by
  have:D=0\/D=1\/D=2:=by omega
  rcases this with rfl|rfl|rfl<;>simp only [UF,oU]<;>omega
 have hl:=G5 D
 have e1:((D+1:Nat):Int) - 1=(D:Int):=by omega
 have:=VT he (D:=D) (fun kd s=>expr e 3 kd (((D+1:Nat):Int) - 1) s) (UF D) (by omega) (fun kd s hk g1 g2=>by rw [e1];exact N3 he 3 D kd D s (Int.le_refl _) (by omega) hk g1 g2) 23 s h0 h2
 rw [<- cal,h] at this
 exact this
def D6 (d:Nat):Int:= -16 - 3*d
def StG (e:Env) (d D:Nat) (s:St) (r:T × St):Prop:=StV e D r.1/\r.2.2=s.2 - T.size r.1/\(2<s.2->D6 d<=r.2.2)
theorem ZO {e:Env} {d D:Nat} (st:St->T × St) (hst:∀ s,2<s.2->s.2<=1000000->StG e d D s (st s)):∀ (n:Nat) (s:St),s.2<=1000000->(blk st n s).1.length<=n/\(∀ t∈(blk st n s).1,StV e D t)/\(blk st n s).2.2=s.2 - T.sizes (blk st n s).1/\min s.2 (D6 d)<=(blk st n s).2.2
 |0,s,_=>⟨ap _,fun t ht=>(by cases ht),by simp [blk,T.sizes],by rw [blk];simp only;omega⟩
 |n+1,s,h2=>by
  rw [blk]
  split
  .rename_i h3
   obtain ⟨g1,g2,g3⟩:=hst s h3 h2
   rcases hx:st s with ⟨t,s1⟩
   rw [hx] at g1 g2 g3
   simp only at g1 g2 g3 ⊢
   have g3:=g3 h3
   obtain ⟨i1,i2,i3,i4⟩:=ZO st hst n s1 (by omega)
   rcases hy:blk st n s1 with ⟨l,s2⟩
   rw [hy] at i1 i2 i3 i4
   simp only at i1 i2 i3 i4 ⊢
   refine ⟨by simp;omega,fun t' ht'=>?_,by rw [T.sizes];omega,by omega⟩
   rcases bn.1 ht' with rfl|ht'
   .exact g1
   .exact i2 t' ht'
  .refine ⟨by simp,fun t ht=>(by cases ht),by simp [T.sizes],by simp only;omega⟩
def BlG (e:Env) (d D:Nat) (s:St) (r:T × St):Prop:=StV e (D+1) r.1/\r.1.kind=13/\r.2.2=s.2 - T.size r.1/\min s.2 (D6 d) - 1<=r.2.2
theorem KZ {e:Env} {d D:Nat} (hd20:d<=20) (st:St->T × St) (hst:∀ s,2<s.2->s.2<=1000000->StG e d D s (st s)) (most:Int) (hm1:0<most) (hm:most<=4) (s:St) (h1: -500000<=s.2) (h2:s.2<=1000000):BlG e d D s (blockS e st most s):=by
 rw [blockS]
 rcases hd:dr e most s with ⟨z,s1⟩
 have hb:=dr_b hm1 hd
 have hs:=dr_2 hd
 simp only
 obtain ⟨i1,i2,i3,i4⟩:=ZO st hst (1+z).toNat s1 (by omega)
 rcases hy:blk st (1+z).toNat s1 with ⟨l,s2⟩
 rw [hy] at i1 i2 i3 i4
 simp only at i1 i2 i3 i4 ⊢
 rcases hn:nd 13 0 l s2 with ⟨t,s3⟩
 have hlo:D6 d= -16 - 3*d:=rfl
 obtain ⟨rfl,h4⟩:=gC hn (by omega) (by omega)
 exact ⟨.block _ _ (by omega) i2,rfl,by rw [T.size];simp only;omega,by simp only;omega⟩
theorem I0:oU 2=7:=by decide
theorem ZC:oU 3=15:=by decide
theorem aBS:oU 1=3:=by decide
section
variable {e:Env} (he:EnvV e) (s:St) (h1: -500000<=s.2) (h2:s.2<=1000000)
include he h1 h2
theorem XF:StG e 0 5 s (stEnd e (expr e 3) s):=by
 rw [stEnd]
 rcases hp:pick e 0 s with ⟨v,s1⟩
 have hs1:=pC hp
 simp only
 rcases hx:expr e 3 0 3 s1 with ⟨a,s2⟩
 obtain ⟨g1,g2,g3,g4⟩:=nV he 3 (by decide) 0 (.inl rfl) s1 s2 a (by omega) (by omega) hx
 rw [ZC] at g4
 simp only
 split
 .rename_i hv
  rcases pick_cases hp with rfl|⟨j,t,rfl,ht,htk⟩
  .exact absurd hv (by decide)
  .rcases hn:nd 14 (j:Int) [a] s2 with ⟨t',s3⟩
   obtain ⟨rfl,h4⟩:=gC hn (by omega) (by omega)
   exact ⟨.set _ _ _ _ ht (by rw [htk];exact .inl rfl) (by rw [htk];exact g1),by rw [oJ];simp only;omega,fun h=>by simp only [D6];omega⟩
 .rcases hn:nd 24 0 [a] s2 with ⟨t',s3⟩
  obtain ⟨rfl,h4⟩:=gC hn (by omega) (by omega)
  exact ⟨.one _ _ _ (.inr (.inr rfl)) g1,by rw [oJ];simp only;omega,fun h=>by simp only [D6];omega⟩
end
theorem StG.of_eq {e:Env} {d D:Nat} {s s':St} {r:T × St} (h:StG e d D s r) (hs:s.2=s'.2):StG e d D s' r:=by
 unfold StG at h ⊢
 rw [<- hs];exact h
theorem J7 {e:Env} (he:EnvV e) (s:St) (h1: -500000<=s.2) (h2:s.2<=1000000) (D:Nat) (hD:D<=3) (k:Int) (hk:k=19\/k=20\/k=24):StG e 0 5 s (match expr e 3 0 D s with
  |(a,s1)=>nd k 0 [a] s1):=by
 rcases hx:expr e 3 0 D s with ⟨a,s1⟩
 obtain ⟨g1,g2,g3,g4⟩:=nV he D hD 0 (.inl rfl) s s1 a (by omega) (by omega) hx
 have h15:oU D<=15:=by
  have:D=0\/D=1\/D=2\/D=3:=by omega
  rcases this with rfl|rfl|rfl|rfl<;>decide
 simp only
 rcases hn:nd k 0 [a] s1 with ⟨t',s2⟩
 obtain ⟨rfl,h4⟩:=gC hn (by omega) (by omega)
 exact ⟨.one _ _ _ hk (g1.up (by omega)),by rw [oJ];simp only;omega,fun h=>by simp only [D6];omega⟩
theorem T0 {e:Env} (he:EnvV e) (z:Int) (s:St) (h1: -400000<=s.2) (h2:s.2<=1000000):StG e 0 5 s (stRest e (expr e 3) z s):=by
 have hend:∀ s',s'.2=s.2->StG e 0 5 s (stEnd e (expr e 3) s'):=fun s' hs=>(XF he s' (by omega) (by omega)).of_eq hs
 rw [stRest]
 split
 .rcases hp:pick e 2 s with ⟨v,s1⟩
  have hs1:=pC hp
  simp only
  split
  .rename_i hv
   rcases pick_cases hp with rfl|⟨j,t,rfl,ht,htk⟩
   .exact absurd hv (by decide)
   .rcases hx:expr e 3 0 1 s1 with ⟨a,s2⟩
    obtain ⟨g1,g2,g3,g4⟩:=nV he 1 (by decide) 0 (.inl rfl) s1 s2 a (by omega) (by omega) hx
    rw [aBS] at g4
    simp only
    rcases hy:expr e 3 0 2 s2 with ⟨b,s3⟩
    obtain ⟨i1,i2,i3,i4⟩:=nV he 2 (by decide) 0 (.inl rfl) s2 s3 b (by omega) (by omega) hy
    rw [I0] at i4
    simp only
    rcases hn:nd 15 (j:Int) [a,b] s3 with ⟨t',s4⟩
    obtain ⟨rfl,h4⟩:=gC hn (by omega) (by omega)
    exact ⟨.put _ _ _ _ _ ht htk (g1.up (by decide)) (i1.up (by decide)),by rw [qY];simp only;omega,fun h=>by simp only [D6];omega⟩
  .exact hend _ hs1
 split
 .rcases hd:dr e 2 s with ⟨kd,s1⟩
  have hb:=dr_b (by decide) hd
  have hs1:=dr_2 hd
  simp only
  rcases hf:field e kd s1 with ⟨⟨v,k⟩,s2⟩
  obtain ⟨hs2,hv⟩:=PL hf
  simp only
  split
  .rename_i hv0
   rcases hv with hv|⟨j,i,t,c,rfl,rfl,q1,q2,q3,q4⟩
   .omega
   .have hpk:pk kd:=by unfold pk;omega
    rcases hx:expr e 3 kd 2 s2 with ⟨a,s3⟩
    obtain ⟨g1,g2,g3,g4⟩:=nV he 2 (by decide) kd hpk s2 s3 a (by omega) (by omega) hx
    rw [I0] at g4
    simp only
    rcases hn:nd 16 (j:Int) [a] s3 with ⟨t',s4⟩
    obtain ⟨rfl,h4⟩:=gC hn (by omega) (by omega)
    exact ⟨.fill _ _ _ _ _ _ q1 q2 q3 (by rw [q4];exact hpk) (by rw [q4];exact g1.up (by decide)),by rw [setM,oJ];simp only;omega,fun h=>by simp only [D6];omega⟩
  .exact hend _ (by omega)
 split
 .exact J7 he s (by omega) h2 3 (by decide) 19 (.inl rfl)
 split
 .exact J7 he s (by omega) h2 1 (by decide) 20 (.inr (.inl rfl))
 split
 .rcases hp:pick e 1 s with ⟨v,s1⟩
  have hs1:=pC hp
  simp only
  split
  .rename_i hv
   rcases pick_cases hp with rfl|⟨j,t,rfl,ht,htk⟩
   .exact absurd hv (by decide)
   .rcases hx:expr e 3 1 3 s1 with ⟨a,s2⟩
    obtain ⟨g1,g2,g3,g4⟩:=nV he 3 (by decide) 1 (.inr rfl) s1 s2 a (by omega) (by omega) hx
    rw [ZC] at g4
    simp only
    rcases hn:nd 14 (j:Int) [a] s2 with ⟨t',s3⟩
    obtain ⟨rfl,h4⟩:=gC hn (by omega) (by omega)
    exact ⟨.set _ _ _ _ ht (by rw [htk];exact .inr rfl) (by rw [htk];exact g1),by rw [oJ];simp only;omega,fun h=>by simp only [D6];omega⟩
  .exact hend _ hs1
 split
 .exact J7 he s (by omega) h2 3 (by decide) 24 (.inr (.inr rfl))
 split
 .exact J7 he s (by omega) h2 3 (by decide) 24 (.inr (.inr rfl))
 split
 .exact J7 he s (by omega) h2 3 (by decide) 24 (.inr (.inr rfl))
 split
 .rcases hn:nd 25 0 [] s with ⟨t',s3⟩
  obtain ⟨rfl,h4⟩:=gC hn (by omega) (by omega)
  exact ⟨.skip _,by rw [iJ];simp only;omega,fun h=>by simp only [D6];omega⟩
 .exact hend _ rfl
theorem XG {e:Env} (he:EnvV e) (z:Int) (s:St) (h1: -400000<=s.2) (h2:s.2<=1000000):StG e 0 5 s (stCon e (expr e 3) (cal e) z s):=by
 have hcal:∀ D:Nat,D<=1->StG e 0 5 s (cal e 23 (D+1:Nat) s):=fun D hD=>by
  rcases hx:cal e 23 (D+1:Nat) s with ⟨t,s1⟩
  obtain ⟨⟨f,fd,ags,rfl,q1,q2,q3⟩,g2,g3⟩:=aCx he D (by omega) s s1 t (by omega) (by omega) hx
  have:oU (D+1)<=7:=by
   have:D=0\/D=1:=by omega
   rcases this with rfl|rfl<;>decide
  exact ⟨.spawn _ _ _ _ q1 q2 fun i a t ha ht=>(q3 i a t ha ht).up (by omega),g2,fun h=>by simp only [D6];omega⟩
 rw [stCon]
 split
 .rename_i hc
  rw [ae] at hc
  have hpn:=he.pn1 hc.1
  split
  .exact hcal 1 (by decide)
  split
  .exact hcal 0 (by decide)
  rcases hd:dr e e.pn s with ⟨c,s1⟩
  have hb:=dr_b (by omega) hd
  have hs1:=dr_2 hd
  simp only
  rcases hx:expr e 3 0 2 s1 with ⟨a,s2⟩
  obtain ⟨g1,g2,g3,g4⟩:=nV he 2 (by decide) 0 (.inl rfl) s1 s2 a (by omega) (by omega) hx
  rw [I0] at g4
  simp only
  rcases hn:nd 22 c [a] s2 with ⟨t',s3⟩
  obtain ⟨rfl,h4⟩:=gC hn (by omega) (by omega)
  exact ⟨.send _ _ _ hb.1 hb.2 (g1.up (by decide)),by rw [oJ];simp only;omega,fun h=>by simp only [D6];omega⟩
 .exact T0 he z s h1 h2
theorem YD {e:Env} (he:EnvV e) {d D:Nat} (hD:3<=D) (hd:d<=20) (st:St->T × St) (hst:∀ s,2<s.2->s.2<=1000000->StG e d D s (st s)) (j:Nat) (t:T) (ht:e.vars[j]? =some t) (htk:t.kind=0) (s:St) (h1:10<s.2) (h2:s.2<=1000000):StG e (d+1) (D+2) s (loopS e st (j:Int) s):=by
 have hvar:∀ dd,ExV e 0 (dd+1) (.mk 6 j 0 []):=fun dd=>.var dd 0 j t ht htk (.inl rfl)
 rw [loopS]
 rcases q1:nd 6 (j:Int) [] s with ⟨a,s1⟩
 obtain ⟨rfl,p1⟩:=gC q1 (by omega) (by omega)
 simp only
 rcases q2:dr e 3 s1 with ⟨z,s2⟩
 have hb:=dr_b (by decide) q2
 have p2:=dr_2 q2
 simp only
 rcases q3:nd 4 (IntKind.i64.wrap (1+z)) [] s2 with ⟨b,s3⟩
 obtain ⟨rfl,p3⟩:=gC q3 (by omega) (by omega)
 have ez:IntKind.i64.wrap (1+z)=1+z:=bC (by omega) (by omega)
 simp only [ez]
 generalize hA:T.mk 6 (j:Int) 0 []=A
 have szA:T.size A=1:=by rw [<- hA];rfl
 generalize hB:T.mk 4 (1+z) 0 []=Bb
 have szB:T.size Bb=1:=by rw [<- hB];rfl
 have tB:ExV e 0 1 Bb:=by rw [<- hB];exact .num _ _ (by omega) (by omega)
 have tA:ExV e 0 1 A:=by rw [<- hA];exact hvar 0
 rcases q4:nd 9 10 [A,Bb] s3 with ⟨c,s4⟩
 obtain ⟨rfl,p4⟩:=gC q4 (by omega) (by omega)
 simp only
 rcases q5:nd 6 (j:Int) [] s4 with ⟨c',s5⟩
 obtain ⟨rfl,p5⟩:=gC q5 (by omega) (by omega)
 simp only
 rcases q6:nd 4 1 [] s5 with ⟨d',s6⟩
 obtain ⟨rfl,p6⟩:=gC q6 (by omega) (by omega)
 simp only [hA]
 generalize hO:T.mk 4 1 0 []=O
 have szO:T.size O=1:=by rw [<- hO];rfl
 have tO:ExV e 0 1 O:=by rw [<- hO];exact .num _ _ (by omega) (by omega)
 rcases q7:nd 9 0 [A,O] s6 with ⟨nx,s7⟩
 obtain ⟨rfl,p7⟩:=gC q7 (by omega) (by omega)
 simp only
 rcases q8:nd 14 (j:Int) [.mk 9 0 0 [A,O]] s7 with ⟨ct,s8⟩
 obtain ⟨rfl,p8⟩:=gC q8 (by omega) (by omega)
 simp only
 have tc:ExV e 1 2 (.mk 9 10 0 [A,Bb]):=.cmp _ _ _ _ (by omega) (by omega) tA tB
 have tn:StV e 3 (.mk 14 j 0 [.mk 9 0 0 [A,O]]):=.set _ _ _ _ ht (by rw [htk];exact .inl rfl) (by rw [htk];exact .bin _ _ _ _ (by omega) (by omega) tA tO)
 have szc:T.size (.mk 9 10 0 [A,Bb])=3:=by rw [qY,szA,szB]
 have szn:T.size (.mk 14 (j:Int) 0 [.mk 9 0 0 [A,O]])=4:=by rw [oJ,qY,szA,szO]
 generalize T.mk 9 10 0 [A,Bb]=C at tc szc
 generalize T.mk 14 (j:Int) 0 [.mk 9 0 0 [A,O]]=CT at tn szn
 have hlo:D6 d= -16 - 3*d:=rfl
 have hlo1:D6 (d+1)= -16 - 3*((d+1:Nat):Int):=rfl
 split
 .rename_i h4
  obtain ⟨g1,g2,g3⟩:=hst s8 (by omega) (by omega)
  rcases hx:st s8 with ⟨t1,s9⟩
  rw [hx] at g1 g2 g3
  simp only at g1 g2 g3 ⊢
  have g3:=g3 (by omega)
  rw [loopEnd]
  rcases q9:nd 13 0 [t1,CT] s9 with ⟨bb,s10⟩
  obtain ⟨rfl,p9⟩:=gC q9 (by omega) (by omega)
  simp only
  rcases q10:nd 18 0 [C,.mk 13 0 0 [t1,CT]] s10 with ⟨r,s11⟩
  obtain ⟨rfl,p10⟩:=gC q10 (by omega) (by omega)
  refine ⟨.loop _ _ _ (tc.up (by omega)) (.block _ _ (by simp) fun x hx=>?_) rfl,by rw [qY,qY,szc,szn];simp only;omega,fun _=>by simp only;omega⟩
  replace hx:=aC hx
  rcases hx with rfl|rfl
  .exact g1
  .exact tn.up hD
 .rw [loopEnd]
  rcases q9:nd 13 0 [CT] s8 with ⟨bb,s10⟩
  obtain ⟨rfl,p9⟩:=gC q9 (by omega) (by omega)
  simp only
  rcases q10:nd 18 0 [C,.mk 13 0 0 [CT]] s10 with ⟨r,s11⟩
  obtain ⟨rfl,p10⟩:=gC q10 (by omega) (by omega)
  refine ⟨.loop _ _ _ (tc.up (by omega)) (.block _ _ (by simp) fun x hx=>?_) rfl,by rw [qY,oJ,szc,szn];simp only;omega,fun _=>by simp only;omega⟩
  rw [bd.1 hx]
  exact tn.up hD
theorem QP {e:Env} (he:EnvV e) {d D:Nat} (hD:3<=D) (hd:d<=20) (bl:Int->St->T × St) (hbl:∀ m s,0<m->m<=4-> -500000<=s.2->s.2<=1000000->BlG e d D s (bl m s)) (s:St) (h1:8<s.2) (h2:s.2<=1000000):StG e (d+1) (D+2) s (nestEnd (expr e 3 1 2) bl s):=by
 have hlo:D6 d= -16 - 3*d:=rfl
 have hlo1:D6 (d+1)= -16 - 3*((d+1:Nat):Int):=rfl
 rw [nestEnd]
 rcases hx:expr e 3 1 2 s with ⟨a,s1⟩
 obtain ⟨g1,g2,g3,g4⟩:=nV he 2 (by decide) 1 (.inr rfl) s s1 a (by omega) (by omega) hx
 rw [I0] at g4
 simp only
 obtain ⟨b1,b2,b3,b4⟩:=hbl 2 s1 (by decide) (by decide) (by omega) (by omega)
 rcases hy:bl 2 s1 with ⟨b,s2⟩
 rw [hy] at b1 b2 b3 b4
 simp only at b1 b2 b3 b4 ⊢
 obtain ⟨c1,c2,c3,c4⟩:=hbl 1 s2 (by decide) (by decide) (by omega) (by omega)
 rcases hz:bl 1 s2 with ⟨c,s3⟩
 rw [hz] at c1 c2 c3 c4
 simp only at c1 c2 c3 c4 ⊢
 rcases hn:nd 17 0 [a,b,c] s3 with ⟨t',s4⟩
 obtain ⟨rfl,h4⟩:=gC hn (by omega) (by omega)
 exact ⟨.ite _ _ _ _ (g1.up (by omega)) b1 b2 c1 c2,by rw [aBU];simp only;omega,fun _=>by simp only;omega⟩
theorem Y6 {e:Env} (he:EnvV e) {d D:Nat} (hD:3<=D) (hd:d<=20) (bl lp:Int->St->T × St) (hbl:∀ m s,0<m->m<=4-> -500000<=s.2->s.2<=1000000->BlG e d D s (bl m s)) (hlp:∀ (j:Nat) (t:T) s,e.vars[j]? =some t->t.kind=0->10<s.2->s.2<=1000000->StG e (d+1) (D+2) s (lp j s)) (s:St) (h1:8<s.2) (h2:s.2<=1000000):StG e (d+1) (D+2) s (nestS e (expr e 3 1 2) bl lp s):=by
 have hlo:D6 d= -16 - 3*d:=rfl
 have hlo1:D6 (d+1)= -16 - 3*((d+1:Nat):Int):=rfl
 have hend:∀ s',s'.2=s.2->StG e (d+1) (D+2) s (nestEnd (expr e 3 1 2) bl s'):=fun s' hs=>(QP he hD hd bl hbl s' (by omega) (by omega)).of_eq hs
 rw [nestS]
 rcases hd5:dr e 5 s with ⟨z,s1⟩
 have hs1:=dr_2 hd5
 simp only
 split
 .rcases hx:expr e 3 1 2 s1 with ⟨a,s2⟩
  obtain ⟨g1,g2,g3,g4⟩:=nV he 2 (by decide) 1 (.inr rfl) s1 s2 a (by omega) (by omega) hx
  rw [I0] at g4
  simp only
  obtain ⟨b1,b2,b3,b4⟩:=hbl 2 s2 (by decide) (by decide) (by omega) (by omega)
  rcases hy:bl 2 s2 with ⟨b,s3⟩
  rw [hy] at b1 b2 b3 b4
  simp only at b1 b2 b3 b4 ⊢
  rcases hn:nd 18 0 [a,b] s3 with ⟨t',s4⟩
  obtain ⟨rfl,h4⟩:=gC hn (by omega) (by omega)
  exact ⟨.loop _ _ _ (g1.up (by omega)) b1 b2,by rw [qY];simp only;omega,fun _=>by simp only;omega⟩
 split
 .rcases hp:pick e 0 s1 with ⟨v,s2⟩
  have hs2:=pC hp
  simp only
  split
  .rename_i hv
   rcases pick_cases hp with rfl|⟨j,t,rfl,ht,htk⟩
   .exact absurd hv.1 (by decide)
   .exact (hlp j t s2 ht htk hv.2 (by omega)).of_eq (by omega)
  .exact hend _ (by omega)
 split
 .rcases hp:pick e 0 s1 with ⟨v,s2⟩
  have hs2:=pC hp
  simp only
  split
  .rename_i hv
   rcases pick_cases hp with rfl|⟨j,t,rfl,ht,htk⟩
   .exact absurd hv (by decide)
   .obtain ⟨b1,b2,b3,b4⟩:=hbl 2 s2 (by decide) (by decide) (by omega) (by omega)
    rcases hy:bl 2 s2 with ⟨b,s3⟩
    rw [hy] at b1 b2 b3 b4
    simp only at b1 b2 b3 b4 ⊢
    obtain ⟨c1,c2,c3,c4⟩:=hbl 1 s3 (by decide) (by decide) (by omega) (by omega)
    rcases hz:bl 1 s3 with ⟨c,s4⟩
    rw [hz] at c1 c2 c3 c4
    simp only at c1 c2 c3 c4 ⊢
    rcases hn:nd 21 (j:Int) [b,c] s4 with ⟨t',s5⟩
    obtain ⟨rfl,h4⟩:=gC hn (by omega) (by omega)
    exact ⟨.try' _ _ _ _ _ ht htk b1 b2 c1 c2,by rw [qY];simp only;omega,fun _=>by simp only;omega⟩
  .exact hend _ (by omega)
 split
 .obtain ⟨b1,b2,b3,b4⟩:=hbl 2 s1 (by decide) (by decide) (by omega) (by omega)
  rcases hy:bl 2 s1 with ⟨b,s3⟩
  rw [hy] at b1 b2 b3 b4
  simp only at b1 b2 b3 b4 ⊢
  exact ⟨b1.up (by omega),by simp only;omega,fun _=>by simp only;omega⟩
 .exact hend _ hs1
theorem ZD {e:Env} (he:EnvV e):∀ (d:Nat) (depth:Int) (s:St),depth<=d->d<=10->2<s.2->s.2<=1000000->StG e d (5+2*d) s (stm e d depth s)
 |d,depth,s,hdp,hd10,h1,h2=>by
  have key:∀ ne:St->T × St,(∀ s1,0<depth->8<s1.2->s1.2=s.2->StG e d (5+2*d) s1 (ne s1))->StG e d (5+2*d) s (stmtS e (expr e 3) (cal e) ne depth s):=fun ne hne=>by
   rw [stmtS]
   rcases hd:dr e 16 s with ⟨z,s1⟩
   have hs1:=dr_2 hd
   simp only
   split
   .rename_i hc
    exact (hne s1 hc.1 hc.2.1 hs1).of_eq hs1
   .obtain ⟨g1,g2,g3⟩:=XG he z s1 (by omega) (by omega)
    refine ⟨g1.up (by omega),by omega,fun h=>?_⟩
    have:=g3 (by omega)
    simp only [D6] at this ⊢
    omega
  cases d with
  |zero=>
   rw [stm]
   exact key _ fun s1 h _ _=>by omega
  |succ d=>
   rw [stm]
   refine key _ fun s1 hpos h8 hs1=>?_
   have hst:∀ s,2<s.2->s.2<=1000000->StG e d (5+2*d) s ((fun s=>stm e d (depth - 1) s) s):=fun s g1 g2=>ZD he d (depth - 1) s (by omega) (by omega) g1 g2
   have:=Y6 he (d:=d) (D:=5+2*d) (by omega) (by omega) (fun most s=>blockS e (fun s=>stm e d (depth - 1) s) most s) (fun v s=>loopS e (fun s=>stm e d (depth - 1) s) v s) (fun m s m1 m2 g1 g2=>KZ (by omega) _ hst m m1 m2 s g1 g2) (fun j t s ht htk g1 g2=>YD he (by omega) (by omega) _ hst j t ht htk s g1 g2) s1 h8 (by omega)
   exact this
theorem block_v {e:Env} (he:EnvV e) (s:St) (h1: -500000<=s.2) (h2:s.2<=1000000):StV e 12 (block e s).1/\(block e s).1.kind=13/\(block e s).2.2=s.2 - T.size (block e s).1/\min s.2 (-25) - 1<=(block e s).2.2:=
 KZ (d:=3) (D:=11) (by decide) (stm e 3 3) (fun s g1 g2=>ZD he 3 3 s (by decide) (by decide) g1 g2) 4 (by decide) (by decide) s h1 h2
end G7
end Go.Proofs.YtggflhbigolakaaGreatDoor
