import Derived.Test.YtggflhbigolakaaGreatDoorYE
import Derived.Test.YtggflhbigolakaaGreatDoorYT
set_option linter.unusedVariables false
namespace Go.Proofs.YtggflhbigolakaaGreatDoor
open Go.AM
attribute [local irreducible] cG bG bI bL bW bZ aQ aV bN
namespace G7
theorem TJ {e:Env}:∀ (n:Nat) (s:St), -1900000+n<=s.2->s.2<=1000000->(recs e n s).1.length=n/\(∀ t∈(recs e n s).1,∃ k,pk k/\t=.mk k 0 0 [])/\(recs e n s).2.2=s.2 - n/\T.sizes (recs e n s).1=n
 |0,s,_,_=>⟨rfl,fun t ht=>(by cases ht),by simp [recs],rfl⟩
 |n+1,s,h1,h2=>by
  rw [recs]
  rcases hd:dr e 2 s with ⟨y,s1⟩
  have hb:=dr_b (by decide) hd
  have hs:=dr_2 hd
  simp only
  rcases hn:nd y 0 [] s1 with ⟨t,s2⟩
  obtain ⟨rfl,h4⟩:=gC hn (by omega) (by omega)
  simp only
  obtain ⟨i1,i2,i3,i4⟩:=TJ (e:=e) n s2 (by omega) (by omega)
  rcases hr:recs e n s2 with ⟨l,s3⟩
  rw [hr] at i1 i2 i3 i4
  simp only at i1 i2 i3 i4 ⊢
  refine ⟨by simp [i1],fun t ht=>?_,by omega,by rw [T.sizes,iJ,i4];omega⟩
  rcases bn.1 ht with rfl|ht
  .exact ⟨y,by unfold pk;omega,rfl⟩
  .exact i2 t ht
theorem aAD {e:Env} (w:Int) (hw:0<=w) (s:St) (h1: -1800000<=s.2) (h2:s.2<=1000000):TyV (one e w s).1/\(w<5->pk (one e w s).1.kind)/\(one e w s).2.2=s.2 - T.size (one e w s).1/\T.size (one e w s).1<=4:=by
 rw [one]
 split
 .rcases hn:nd 0 0 [] s with ⟨t,s2⟩
  obtain ⟨rfl,h4⟩:=gC hn (by omega) (by omega)
  exact ⟨.pl _ (.inl rfl),fun _=>.inl rfl,by rw [iJ];simp only;omega,by rw [iJ];omega⟩
 split
 .rcases hn:nd 1 0 [] s with ⟨t,s2⟩
  obtain ⟨rfl,h4⟩:=gC hn (by omega) (by omega)
  exact ⟨.pl _ (.inr rfl),fun _=>.inr rfl,by rw [iJ];simp only;omega,by rw [iJ];omega⟩
 rename_i h5
 have h5:w≠4:=by simpa using h5
 split
 .rcases hd:dr e 4 s with ⟨t,s1⟩
  have hb:=dr_b (by decide) hd
  have hs:=dr_2 hd
  have ez:IntKind.i64.wrap (1+t)=1+t:=bC (by omega) (by omega)
  simp only [ez]
  rcases hn:nd 2 (1+t) [] s1 with ⟨t',s2⟩
  obtain ⟨rfl,h4⟩:=gC hn (by omega) (by omega)
  exact ⟨.arr _ (by omega) (by omega),fun h=>absurd h (by omega),by rw [iJ];simp only;omega,by rw [iJ];omega⟩
 .rcases hd:dr e 2 s with ⟨u,s1⟩
  have hb:=dr_b (by decide) hd
  have hs:=dr_2 hd
  simp only
  rcases hn:nd u 0 [] s1 with ⟨a,s2⟩
  obtain ⟨rfl,h4⟩:=gC hn (by omega) (by omega)
  simp only
  rcases hd2:dr e 3 s2 with ⟨n,s3⟩
  have hb2:=dr_b (by decide) hd2
  have hs2:=dr_2 hd2
  simp only
  obtain ⟨i1,i2,i3,i4⟩:=TJ (e:=e) n.toNat s3 (by omega) (by omega)
  rcases hr:recs e n.toNat s3 with ⟨l,s4⟩
  rw [hr] at i1 i2 i3 i4
  simp only at i1 i2 i3 i4 ⊢
  rcases hn2:nd 3 0 (.mk u 0 0 []::l) s4 with ⟨t',s5⟩
  obtain ⟨rfl,h5⟩:=gC hn2 (by omega) (by omega)
  refine ⟨.rcd _ (by simp) (by simp [i1];omega) fun t ht=>?_,fun h=>absurd h (by omega),by rw [T.size,T.sizes,iJ,i4];simp only;omega,by rw [T.size,T.sizes,iJ,i4];omega⟩
  rcases bn.1 ht with rfl|ht
  .exact ⟨u,by unfold pk;omega,rfl⟩
  .exact i2 t ht
theorem NS {e:Env} (params:Nat):∀ (n i:Nat) (s:St), -1700000+4*n<=s.2->s.2<=1000000->(∀ t∈(vloop e params n i s).1,TyV t)/\(∀ (j:Nat) (t:T),i+j<params->(vloop e params n i s).1[j]? =some t->pk t.kind)/\(vloop e params n i s).2.2=s.2 - T.sizes (vloop e params n i s).1/\T.sizes (vloop e params n i s).1<=4*n
 |0,i,s,_,_=>⟨fun t ht=>(by cases ht),fun j t _ h=>by simp [vloop] at h,by simp [vloop,T.sizes],by simp [vloop,T.sizes]⟩
 |n+1,i,s,h1,h2=>by
  rw [vloop]
  rcases hd:dr e 8 s with ⟨w,s1⟩
  have hb:=dr_b (by decide) hd
  have hs:=dr_2 hd
  simp only
  have hw:0<=(if i<params then w.tmod 5 else w)/\(i<params->(if i<params then w.tmod 5 else w)<5):=by
   split
   .exact ⟨Int.tmod_nonneg _ hb.1,fun _=>Int.tmod_lt_of_pos _ (by decide)⟩
   .exact ⟨hb.1,fun h=>absurd h (by assumption)⟩
  obtain ⟨g1,g2,g3,g4⟩:=aAD (e:=e) _ hw.1 s1 (by omega) (by omega)
  rcases hx:one e (if i<params then w.tmod 5 else w) s1 with ⟨t,s2⟩
  rw [hx] at g1 g2 g3 g4
  simp only at g1 g2 g3 g4 ⊢
  obtain ⟨i1,i2,i3,i4⟩:=NS (e:=e) params n (i+1) s2 (by omega) (by omega)
  rcases hy:vloop e params n (i+1) s2 with ⟨l,s3⟩
  rw [hy] at i1 i2 i3 i4
  simp only at i1 i2 i3 i4 ⊢
  refine ⟨fun t' ht=>?_,fun j t' hj ht=>?_,by rw [T.sizes];omega,by rw [T.sizes];omega⟩
  .rcases bn.1 ht with rfl|ht
   .exact g1
   .exact i1 t' ht
  .cases j with
   |zero=>
    simp only [fw,ao] at ht
    subst ht
    exact g2 (hw.2 (by omega))
   |succ j=>
    simp only [gt] at ht
    exact i2 j t' (by omega) ht
theorem vars_v {e:Env} (params:Nat) (hp:params<=2) (s:St) (h1: -1600000<=s.2) (h2:s.2<=1000000):params<=(vars e params s).1.length/\(vars e params s).1.length<=5/\(∀ t∈(vars e params s).1,TyV t)/\(∀ (j:Nat) (t:T),j<params->(vars e params s).1[j]? =some t->pk t.kind)/\(vars e params s).2.2=s.2 - T.sizes (vars e params s).1/\T.sizes (vars e params s).1<=20:=by
 have hl:=S5 e params s
 refine ⟨hl.1,by omega,?_⟩
 clear hl
 rw [vars]
 rcases hd:dr e 4 s with ⟨m,s1⟩
 have hb:=dr_b (by decide) hd
 have hs:=dr_2 hd
 simp only
 obtain ⟨i1,i2,i3,i4⟩:=NS (e:=e) params ((params:Int)+m).toNat 0 s1 (by omega) (by omega)
 exact ⟨i1,fun j t hj ht=>i2 j t (by omega) ht,by omega,by omega⟩
end G7
theorem KH {Q:List AV->Prop} {ts:List T} (h:∀ t∈ts,Q (T.enc t)):∀ e∈T.encs ts,Q e:=fun e he=>by
 rw [T.encs_map] at he
 obtain ⟨t,ht,rfl⟩:=cf.1 he
 exact h t ht
theorem fT {d:Nat} (k n m:Int) (es:List T) (hl:es.length<=6) (h:∀ t∈es,NodeV d (T.enc t)):NodeV (d+1) (T.enc (.mk k n m es)):=.mk (hd:=Nat.lt_succ_self d) k n m false (T.encs es) (by rw [T.encs_len];exact hl) (KH h)
theorem oO {Q:T->Prop}:∀ t∈([]:List T),Q t:=fun t ht=>by cases ht
theorem wC {Q:T->Prop} {a:T} (h:Q a):∀ t∈[a],Q t:=fun t ht=>by rw [bd.1 ht];exact h
theorem wB {Q:T->Prop} {a b:T} (h:Q a) (g:Q b):∀ t∈[a,b],Q t:=fun t ht=>by
 replace ht:=aC ht
 rcases ht with rfl|rfl<;>assumption
theorem aCh {Q:T->Prop} {a b c:T} (h:Q a) (g:Q b) (k:Q c):∀ t∈[a,b,c],Q t:=fun t ht=>by
 replace ht:=aC ht
 rcases ht with rfl|rfl|rfl<;>assumption
theorem aAa {t:T} (h:G7.TyV t):NodeV 2 (T.enc t):=by
 cases h with
 |pl k h=>exact (fT (d:=0) _ _ _ [] (by decide) oO).up (by decide)
 |arr n h1 h2=>exact (fT (d:=0) _ _ _ [] (by decide) oO).up (by decide)
 |rcd es h1 h2 h=>
  refine fT _ _ _ es (by omega) fun t ht=>?_
  obtain ⟨k,_,rfl⟩:=h t ht
  exact fT (d:=0) _ _ _ [] (by decide) oO
theorem uB {e:G7.Env} {d:Nat} {fd:Nat × List T} {l:List T} (hw:fd.1<=fd.2.length) (hl:l.length=fd.1) {Q:T->Prop} (h:∀ (i:Nat) (a t:T),l[i]? =some a->fd.2[i]? =some t->Q a):∀ a∈l,Q a:=fun a ha=>by
 obtain ⟨i,hi⟩:=je ha
 have:=(aq.1 hi).1
 exact h i a fd.2[i] hi (ah (by omega))
theorem nW {e:G7.Env} (he:G7.EnvV e) {kind:Int} {d:Nat} {t:T} (h:G7.ExV e kind d t):NodeV d (T.enc t):=by
 induction h with
 |num d n h1 h2=>exact (fT (d:=d) _ _ _ [] (by simp) oO)
 |truth d n h1 h2=>exact (fT (d:=d) _ _ _ [] (by simp) oO)
 |var d kind v t h hk hp=>exact (fT (d:=d) _ _ _ [] (by simp) oO)
 |fld d kind v k t c h h3 hc hk hp=>exact (fT (d:=d) _ _ _ [] (by simp) oO)
 |elem d v t a h h2 ha ih=>exact fT _ _ _ _ (by simp) (wC ih)
 |call d f fd ags h hl ha ih=>
  have hf:=he.fd fd (aj h)
  exact fT _ _ _ ags (by omega) (uB (e:=e) (d:=d) hf.2.1 hl ih)
 |recv d c h1 h2=>exact (fT (d:=d) _ _ _ [] (by simp) oO)
 |neg d a ha ih=>exact fT _ _ _ _ (by simp) (wC ih)
 |bin d op a b h1 h2 ha hb i1 i2=>exact fT _ _ _ _ (by simp) (wB i1 i2)
 |cmp d op a b h1 h2 ha hb i1 i2=>exact fT _ _ _ _ (by simp) (wB i1 i2)
 |con d op a b h1 h2 ha hb i1 i2=>exact fT _ _ _ _ (by simp) (wB i1 i2)
theorem aAl {e:G7.Env} (he:G7.EnvV e) {d:Nat} {t:T} (h:G7.StV e d t):NodeV d (T.enc t):=by
 induction h with
 |block d l hl h ih=>exact fT _ _ _ l (by omega) ih
 |set d v t a h hp ha=>exact fT _ _ _ _ (by simp) (wC (nW he ha))
 |put d v t a b h h2 ha hb=>exact fT _ _ _ _ (by simp) (wB (nW he ha) (nW he hb))
 |fill d v k t c a h h3 hc hp ha=>exact fT _ _ _ _ (by simp) (wC (nW he ha))
 |ite d a b c ha hb kb hc kc i1 i2=>exact fT _ _ _ _ (by simp) (aCh (nW he ha) i1 i2)
 |loop d a b ha hb kb i1=>exact fT _ _ _ _ (by simp) (wB (nW he ha) i1)
 |one d k a hk ha=>exact fT _ _ _ _ (by simp) (wC (nW he ha))
 |try' d v t b c h h0 hb kb hc kc i1 i2=>exact fT _ _ _ _ (by simp) (wB i1 i2)
 |send d c a h1 h2 ha=>exact fT _ _ _ _ (by simp) (wC (nW he ha))
 |spawn d f fd ags h hl ha=>
  have hf:=he.fd fd (aj h)
  exact fT _ _ _ ags (by omega) (uB (e:=e) (d:=d) hf.2.1 hl fun i a t h1 h2=>nW he (ha i a t h1 h2))
 |skip d=>exact (fT (d:=d) _ _ _ [] (by simp) oO)
namespace G7
def funs (e : Env) : Nat -> St -> List (Nat × List T) × St
 |0,s=>([],s)
 |n+1,s=>match dr e 3 s with
  |(z,s1)=>match vars e z.toNat s1 with
   |(ts,s2)=>match funs e n s2 with
    |(l,s3)=>((z.toNat,ts)::l,s3)
def leftOf (all:Int) (n i:Nat):Int:=if i=0 then IntKind.i64.wrap (all - IntKind.i64.wrap (((n:Int) - 1)*IntKind.i64.wrap (all.tdiv ((n:Int)+1)))) else IntKind.i64.wrap (all.tdiv ((n:Int)+1))
def blocks (e:Env) (all:Int) (n:Nat):Nat->Nat->Int->List T × Int
 |0,_,a=>([],a)
 |m+1,i,a=>match block { e with F:=i } (a,leftOf all n i) with
  |(b,s1)=>match blocks e all n m (i+1) s1.1 with
   |(l,a2)=>(b::l,a2)
def funT (fd:Nat × List T) (b:T):T:=.mk 26 fd.1 0 (fd.2++[b])
def env0 (L:List Int) (con:Bool):Env:=⟨L,[],0,con,0⟩
def start (L:List Int) (con:Bool):Int × St:=match con with
 |true=>(match dr (env0 L con) 2 (0,32) with
  |(z,s)=>(1+z,(s.1,36)))
 |false=>(0,(0,32))
def made (L:List Int) (con:Bool):T:=match start L con with
 |(pn,s)=>match dr (env0 L con) 3 s with
  |(z,s1)=>match funs (env0 L con) (1+z).toNat s1 with
   |(fs,s2)=>.mk 27 pn 0 (List.zipWith funT fs (blocks ⟨L,fs,0,con,pn⟩ (IntKind.i64.wrap (s2.2 - IntKind.i64.wrap (2*(1+z)))) (1+z).toNat (1+z).toNat 0 s2.1).1)
theorem JZ (e:Env):∀ (n:Nat) (s:St),(funs e n s).1.length=n
 |0,s=>rfl
 |n+1,s=>by rw [funs];simp only [af,JZ e n]
def fdV (fd:Nat × List T):Prop:=fd.1<=2/\fd.1<=fd.2.length/\fd.2.length<=5/\(∀ t∈fd.2,TyV t)/\∀ i t,i<fd.1->fd.2[i]? =some t->pk t.kind
def LY (l:List (Nat × List T)):Nat:=(l.map fun fd=>T.sizes fd.2).sum
theorem uH (fd:Nat × List T) (l:List (Nat × List T)):LY (fd::l)=T.sizes fd.2+LY l:=rfl
theorem funs_v {e:Env}:∀ (n:Nat) (s:St), -1500000+20*n<=s.2->s.2<=1000000->(∀ fd∈(funs e n s).1,fdV fd)/\(funs e n s).2.2=s.2 - LY (funs e n s).1/\LY (funs e n s).1<=20*n
 |0,s,_,_=>⟨fun t ht=>(by cases ht),by simp [funs,LY],by simp [funs,LY]⟩
 |n+1,s,h1,h2=>by
  rw [funs]
  rcases hd:dr e 3 s with ⟨z,s1⟩
  have hb:=dr_b (by decide) hd
  have hs:=dr_2 hd
  simp only
  obtain ⟨g1,g2,g3,g4,g5,g6⟩:=vars_v (e:=e) z.toNat (by omega) s1 (by omega) (by omega)
  rcases hx:vars e z.toNat s1 with ⟨ts,s2⟩
  rw [hx] at g1 g2 g3 g4 g5 g6
  simp only at g1 g2 g3 g4 g5 g6 ⊢
  obtain ⟨i1,i2,i3⟩:=funs_v (e:=e) n s2 (by omega) (by omega)
  rcases hy:funs e n s2 with ⟨l,s3⟩
  rw [hy] at i1 i2 i3
  simp only at i1 i2 i3 ⊢
  refine ⟨fun fd hfd=>?_,by rw [uH];simp only;omega,by rw [uH];simp only;omega⟩
  rcases bn.1 hfd with rfl|hfd
  .exact ⟨by simp only;omega,g1,g2,g3,g4⟩
  .exact i1 fd hfd
end G7
end Go.Proofs.YtggflhbigolakaaGreatDoor
