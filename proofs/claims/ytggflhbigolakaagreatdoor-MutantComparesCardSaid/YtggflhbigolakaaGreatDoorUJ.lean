import Derived.Test.YtggflhbigolakaaGreatDoorUA
import Derived.Test.YtggflhbigolakaaGreatDoorUH
set_option linter.unusedVariables false
set_option linter.unusedSimpArgs false
namespace Go.Proofs.YtggflhbigolakaaGreatDoor
open Go.AM
attribute [local irreducible] AWp aY bC bI bU bW aN aS bL
set_option maxRecDepth 100000
def atO (O:List OpT) (s:Int):Option OpT:=if 0≤s then O[s.toNat]? else none
def eU (c:T) (O:List OpT) (s:Si):Option T:=match T.sub c s.1 with
 |none=>none
 |some n=>match atO O s.2 with
  |none=>none
  |some o=>if O.length≤24 then qV o n else none
def fX (c:T) (O:List OpT):T→List Si→Option T
 |out,[]=>some out
 |out,s::M=>match eU c O s with
  |none=>none
  |some x=>fX c O (T.set out s.1 x) M
def OB:List AV:=[.int .i64 0,.int .i64 0,.int .i64 0,.sl false []]
def JV:Option T→AV
 |some u=>.tup [.agg (T.enc u),.int .i64 0]
 |none=>.tup [.agg OB,.int .i64 6]
def jS (c:T) (O:List OpT) (M:List Si):AV:=if dE M=true then JV (fX c O c M) else .tup [.agg OB,.int .i64 1]
theorem xM (r:Option T):inR aC (JV r)=true:=by
 cases r with
 |none=>rfl
 |some u=>simp only [JV,inR,inL,T.enc_tree,Bool.and_self]
theorem T.sub_size:∀ {p:List Int} {t t':T},T.sub t p=some t'→T.size t'≤T.size t
 | [],t,t',h=>by rw [T.sub] at h;cases h;exact Nat.le_refl _
 |i::p,t,t',h=>by
  obtain ⟨j,k,n,m,es,e,rfl,rfl,he,hs⟩:=T.sub_some h
  have h1:=T.sub_size hs
  have:=T.size_mem (List.mem_of_getElem? he)
  simp only [T.size];omega
theorem nM {B:Nat} (hB:1≤B) {nm:ByteArray} {f p:T} {b:Int} {t x:T} (ht:T.size t≤B) (h:T.app nm f p b t=some x):T.size x≤32*B:=by
 have hg:=T.mat_good f t true [] ht (fun y hy=>(by cases hy))
 unfold T.app at h
 split at h
 ·rename_i hv
  have h32:=lL hv
  split at h
  ·rename_i mp hm
   rw [hm] at hg
   have hps:T.size (T.put mp t.num p)≤T.size p*B:=T.put_size hg hB _ _
   have:=Nat.mul_le_mul_right B h32
   rw [G7] at h
   split at h
   ·cases h
   ·cases h;omega
  ·cases h
 ·cases h
theorem T.wds_set:∀ {es:List T} {j:Nat} {u:T},T.wds es→T.wd u→T.wds (es.set j u)
 | [],_,_,_,_=>trivial
 |x::es,0,u,h,hu=>⟨hu,h.2⟩
 |x::es,j+1,u,h,hu=>⟨h.1,T.wds_set h.2 hu⟩
theorem T.set_wd:∀ (p:List Int) {t x:T},T.wd t→T.wd x→T.wd (T.set t p x)
 | [],_,_,_,hx=>by rw [T.set];exact hx
 |i::p,.mk k n m es,x,ht,hx=>by
  rw [T.set]
  split
  ·simp only [T.kids,T.kind,T.num,T.low]
   split
   ·rename_i e he
    exact ⟨by rw [List.length_set];exact ht.1,T.wds_set ht.2 (T.set_wd p (T.wds_mem ht.2 e (List.mem_of_getElem? he)) hx)⟩
   ·exact ht
  ·exact ht
theorem U8:∀ {mp:MP},(∀ x∈mp,T.wd x.2)→∀ n,T.wd ((c7 mp n).getD T.zero)
 | [],_,n=>T.wd_of (by simp [c7,T.zero,T.size,T.sizes])
 |x::mp,h,n=>by
  rw [c7]
  split
  ·exact h x (by simp)
  ·exact U8 (fun y hy=>h y (by simp [hy])) n
mutual
theorem UK {mp:MP} (h:∀ x∈mp,T.wd x.2) (nn:Int):∀ t:T,T.wd t→T.wd (T.put mp nn t)
 | .mk k n m ps,ht=>by
  rw [T.put]
  split
  ·exact U8 h n
  ·exact ⟨by rw [T.puts_map,List.length_map];exact ht.1,U7 h nn ps ht.2⟩
theorem U7 {mp:MP} (h:∀ x∈mp,T.wd x.2) (nn:Int):∀ ts:List T,T.wds ts→T.wds (T.puts mp nn ts)
 | [],_=>trivial
 |t::ts,ht=>⟨UK h nn t ht.1,U7 h nn ts ht.2⟩
end
theorem UR {nm:ByteArray} {f p:T} {b:Int} {t x:T} (ht:T.size t≤1000000000000) (h:T.app nm f p b t=some x):T.wd x:=by
 have hg:=T.mat_good f t true [] ht (fun y hy=>(by cases hy))
 unfold T.app at h
 split at h
 ·rename_i hv
  have h32:=lL hv
  split at h
  ·rename_i mp hm
   rw [hm] at hg
   rw [G7] at h
   split at h
   ·cases h
   ·cases h
    exact UK (fun y hy=>T.wd_of (by have:=hg y hy;omega)) _ _ (T.wd_of (by omega))
  ·cases h
 ·cases h
theorem qC {c:T} {O:List OpT} {s:Si} {x:T} (h:eU c O s=some x):∃ n o,T.sub c s.1=some n∧atO O s.2=some o∧O.length≤24∧qV o n=some x:=by
 unfold eU at h
 split at h
 ·cases h
 ·rename_i n hn
  split at h
  ·cases h
  ·rename_i o ho
   split at h
   ·rename_i hl
    exact ⟨n,o,hn,ho,hl,h⟩
   ·cases h
theorem EQ {O:List OpT} {s:Int} {o:OpT} (h:atO O s=some o):∃ j:Nat,s=j∧O[j]? =some o:=by
 unfold atO at h
 split at h
 ·exact ⟨s.toNat,by omega,h⟩
 ·cases h
theorem ER {O:List OpT} {s:Int} (h:atO O s=none):s<0∨(O.length:Int)≤s:=by
 unfold atO at h
 split at h
 ·have:=List.getElem?_eq_none_iff.1 h
  omega
 ·omega
def OpB (o:OpT):Prop:=T.size o.2.1≤100000000000∧T.size o.2.2.1≤100000000000
set_option maxHeartbeats 8000000 in
theorem KR (c:T) (hc:T.size c≤1000000000000) (O:List OpT) (hO:∀ o∈O,OpB o) (s:Si) (hp:s.1.length≤2000000000000):Pure Tryz.prog G0 41 [.agg (T.enc c),.sl false (O.map opC),.agg [.sl false (aE s.1),.int .i64 s.2]] (fJ (eU c O s)):=by
 have ka:=v7 c s.1 hp (by omega)
 obtain ⟨p,s⟩:=s
 obtain ⟨res,hres⟩:∃ r,r=eU c O (p,s):=⟨_,rfl⟩
 rw [← hres]
 have hrt:=j4 res
 have htr:=T.enc_tree c
 have hOt:=eI O
 have hOl:(O.map opC).length=O.length:=List.length_map _
 have hOg:∀ (j:Nat) (o:OpT),O[j]? =some o→(O.map opC)[j]? =some (opC o):=fun j o h=>by rw [List.getElem?_map,h];rfl
 have hpr:inE aC (aE p)=true:=aW p
 unfold eU at hres
 simp only at hres ka hp
 generalize aE p=ip at ka hpr ⊢
 generalize O.map opC=OL at hOt hOl hOg ⊢
 obtain ⟨ca,cb,cc,cd,hce⟩:=aI c
 rw [hce] at ka htr ⊢
 refine aU hG0 Tryz.func41 rfl (by kernel_rfl) (by simp [Tryz.ntmps41]) (by simp only [inL,inR,hOt,hpr,Bool.true_and,Bool.and_true] at htr ⊢;exact htr) (by exact hrt) ?_
 simp only [Tryz.ntmps41,aH,Nat.reduceAdd]
 cases hs:T.sub c p with
 |none=>
  rw [hs] at ka hres
  simp only at hres
  simp only [fJ] at ka
  repeat' (first|(refine u'S ?_;simp only [wS,simprocAttr,Bool.not_false])|refine u'Q fun _ _=>?_|refine aO ?_|refine aP (fun hg=>?_) fun hg=>?_|(refine bH hG0 (ka) ?_;simp only [wS,simprocAttr]))
  refine aX (v:=.agg [.int .i64 0,.int .i64 0,.int .i64 0,.sl true []]) rfl ?_ ?_
  ·simp only [wS,simprocAttr]
  ·simp only [wS,simprocAttr]
   rw [hres];rfl
 |some n=>
  rw [hs] at ka hres
  simp only at hres
  simp only [fJ] at ka
  have hn:=Nat.le_trans (T.sub_size hs) hc
  have kn:=T.enc_tree n
  cases ho:atO O s with
  |none=>
   have c3:True:=trivial
   rw [ho] at hres
   simp only at hres
   obtain ⟨na,nb,nc,nd,hne⟩:=aI n
   rw [hne] at ka
   by_cases hs0:s<0
   ·have c1:decide (s<0)=true:=by simp [hs0]
    have c2:True:=trivial
    repeat' (first|(refine u'S ?_;simp only [wS,simprocAttr,c1,c2,c3,Bool.not_true,Bool.not_false])|refine u'Q fun _ _=>?_|refine aO ?_|refine aP (fun hg=>?_) fun hg=>?_|refine u'G ?_|fail)
    refine aX (v:=.agg [.int .i64 0,.int .i64 0,.int .i64 0,.sl true []]) rfl ?_ ?_
    ·simp only [wS,simprocAttr]
    ·simp only [wS,simprocAttr]
     rw [hres];rfl
   ·have c1:decide (s<0)=false:=by simp;omega
    have c2:decide (s ≥ ((OL.length:Nat):Int))=true:=by have:=ER ho;simp;omega
    repeat' (first|(refine u'S ?_;simp only [wS,simprocAttr,c1,c2,c3,Bool.not_true,Bool.not_false])|refine u'Q fun _ _=>?_|refine aO ?_|refine aP (fun hg=>?_) fun hg=>?_|refine u'G ?_|fail)
    refine aX (v:=.agg [.int .i64 0,.int .i64 0,.int .i64 0,.sl true []]) rfl ?_ ?_
    ·simp only [wS,simprocAttr]
    ·simp only [wS,simprocAttr]
     rw [hres];rfl
  |some o=>
   rw [ho] at hres
   simp only at hres
   obtain ⟨j,rfl,hoj⟩:=EQ ho
   have hom:=hO o (List.mem_of_getElem? hoj)
   have go:=hOg j o hoj
   have hjl:j<OL.length:=by have:=(List.getElem?_eq_some_iff.1 hoj).1;omega
   have c1:decide (((j:Nat):Int)<0)=false:=by simp
   have c2:decide (((j:Nat):Int) ≥ ((OL.length:Nat):Int))=false:=by simp;omega
   by_cases hl:O.length≤24
   ·rw [if_pos hl] at hres
    have c3:decide (((OL.length:Nat):Int) > 24)=false:=by simp;omega
    have kap:=BM o.1 o.2.1 o.2.2.1 o.2.2.2 (Nat.le_trans hom.1 (by decide)) (Nat.le_trans hom.2 (by decide)) n hn
    rw [show T.app o.1 o.2.1 o.2.2.1 o.2.2.2 n=res from hres.symm] at kap
    clear hom
    obtain ⟨onm,of',op,oob⟩:=o
    obtain ⟨ofa,ofb,ofc,ofd,hfe⟩:=aI of'
    obtain ⟨opa,opb,opc,opd,hpe⟩:=aI op
    simp only [opC,opE,hfe,hpe,List.cons_append,List.nil_append] at go kap
    obtain ⟨na,nb,nc,nd,hne⟩:=aI n
    rw [hne] at ka kap
    cases res with
    |none=>
     simp only [fJ] at kap
     repeat' (first|(refine u'S ?_;simp only [wS,simprocAttr,c1,c2,c3,Bool.not_true,Bool.not_false,go,hjl])|refine u'Q fun _ _=>?_|refine aO ?_|refine aP (fun hg=>?_) fun hg=>?_|(refine bH hG0 (ka) ?_;simp only [wS,simprocAttr,c1,c2,c3,Bool.not_true,Bool.not_false])|refine u'G ?_|fail)
     refine aX (v:=.agg [.int .i64 0,.int .i64 0,.int .i64 0,.sl false []]) rfl ?_ ?_
     ·simp only [wS,simprocAttr]
     ·simp only [wS,simprocAttr];rfl
    |some x=>
     have hxw:=T.wk_enc x
     obtain ⟨xa,xb,xc,xd,hxe⟩:=aI x
     simp only [fJ] at kap
     rw [hxe] at kap hxw
     repeat' (first|(refine u'S ?_;simp only [wS,simprocAttr,c1,c2,c3,Bool.not_true,Bool.not_false,go,hjl])|refine u'Q fun _ _=>?_|refine aO ?_|refine aP (fun hg=>?_) fun hg=>?_|(refine bH hG0 (ka) ?_;simp only [wS,simprocAttr,c1,c2,c3,Bool.not_true,Bool.not_false])|refine u'G ?_|fail)
     refine aX (v:=.agg [.int .i64 xa,.int .i64 xb,.int .i64 xc,.sl false xd]) rfl ?_ ?_
     ·simp only [wS,simprocAttr]
     ·simp only [wS,simprocAttr]
      rw [fJ,hxe,AM.wk,wkL,AM.wk,hxw,wkL,AM.wk,wkL]
   ·rw [if_neg hl] at hres
    have c3:decide (((OL.length:Nat):Int) > 24)=true:=by simp;omega
    obtain ⟨na,nb,nc,nd,hne⟩:=aI n
    rw [hne] at ka
    repeat' (first|(refine u'S ?_;simp only [wS,simprocAttr,c1,c2,c3,Bool.not_true,Bool.not_false])|refine u'Q fun _ _=>?_|refine aO ?_|refine aP (fun hg=>?_) fun hg=>?_|refine u'G ?_|fail)
    refine aX (v:=.agg [.int .i64 0,.int .i64 0,.int .i64 0,.sl true []]) rfl ?_ ?_
    ·simp only [wS,simprocAttr]
    ·simp only [wS,simprocAttr]
     rw [hres];rfl
set_option maxHeartbeats 8000000 in
theorem CZ (M : List Si) (hM : M.length ≤ 1000000000000000) (hp : ∀ s ∈ M, s.1.length ≤ 1000000000000000) : Pure Tryz.prog G0 38 [mV M] (.bool (dE M)) := by
 have hno:=@ET M
 have hyes:=@zD M
 have ht:=cK M
 have hn:=gQ M
 have hg:=fun (i:Nat) (s:Si)=>jG (M:=M) (i:=i) (s:=s)
 obtain ⟨V,hV⟩:∃ x,x=dE M:=⟨_,rfl⟩
 rw [← hV]
 rw [← hV] at hno hyes
 simp only [mV]
 generalize mC M=MC at ht hn hg ⊢
 refine aQ hG0 Tryz.func38 rfl (by kernel_rfl) (by simp [Tryz.ntmps38]) (by simp only [inL,inR,ht,Bool.and_self]) (by simp [inR]) ?_
 simp only [Tryz.ntmps38,aH,Nat.reduceAdd]
 repeat' (first|(refine u'S ?_;simp only [wS,simprocAttr])|refine u'Q fun _ _=>?_|refine aV ?_|refine aR (fun hg=>?_) fun hg=>?_|fail)
 refine aJ (α:={i:Nat // i≤M.length∧∀ (a b:Nat) (x y:Si),a<b→b<i→M[a]? =some x→M[b]? =some y→ltI x.1 y.1=true}) (fun i=>[(1,.ptr 0 0 0),(3,.int .i64 (i.1:Nat))]) (fun i=>[.cells 0 [.sl false MC]]) (fun i=>M.length - i.1) ⟨0,Nat.zero_le _,fun a b x y _ h=>by omega⟩ (Weak.ref ⟨?_,.inl ?_⟩) ?_
 ·exact u'p
 ·exact u'p
 ·rintro ⟨i,hi,hlts⟩ K1 hK1
  try simp only at hi hlts
  by_cases hlt:i<M.length
  ·have c1 : decide (((i : Nat) : Int) < ((MC.length : Nat) : Int)) = true := by simp; omega
   have e3:=aL (k:=i) hlt (by omega)
   obtain ⟨y,hy⟩:∃ y,M[i]? =some y:=⟨_,List.getElem?_eq_getElem hlt⟩
   have gy:=hg i y hy
   have hB:i<MC.length:=by omega
   repeat' (first|(refine u'S ?_;simp only [wS,simprocAttr,c1,e3])|refine u'Q fun _ _=>?_|refine aO ?_|refine aP (fun hg=>?_) fun hg=>?_|fail)
   refine aJ (α:={k:Nat // k≤i∧∀ (a:Nat) (x:Si),a<k→M[a]? =some x→ltI x.1 y.1=true}) (fun k=>[(1,.ptr 0 0 0),(3,.int .i64 (i:Nat)),(4,.int .i64 (k.1:Nat))]) (fun i=>[.cells 0 [.sl false MC]]) (fun k=>i - k.1) ⟨0,Nat.zero_le _,fun a x h=>by omega⟩ (Weak.ref ⟨?_,.inl ?_⟩) ?_
   ·exact u'p
   ·exact u'p
   ·rintro ⟨k,hk,hks⟩ K2 hK2
    try simp only at hk hks
    by_cases hlk:k<i
    ·have c2:decide (((k:Nat):Int)<((i:Nat):Int))=true:=by simp;omega
     have f3:=aL (k:=k) hlk (by omega)
     obtain ⟨x,hx⟩:∃ x,M[k]? =some x:=⟨_,List.getElem?_eq_getElem (by omega)⟩
     have gx:=hg k x hx
     have hA:k<MC.length:=by omega
     have kc:=GP x y (hp x (List.mem_of_getElem? hx))
     have kb:=CX x.1 y.1 (hp x (List.mem_of_getElem? hx))
     have kb2:=CX y.1 x.1 (hp y (List.mem_of_getElem? hy))
     have hbad:=HL x y
     have hpre:=@GZ x.1 y.1
     have hno':=fun h=>hno (i:=k) (j:=i) hlk hx hy h
     have hnx:ltI x.1 y.1=true→∀ (a:Nat) (x:Si),a<k+1→M[a]? =some x→ltI x.1 y.1=true:=fun h a x' ha hx'=>by
      by_cases e:a=k
      ·subst e
       rw [hx] at hx'
       cases hx'
       exact h
      ·exact hks a x' (by omega) hx'
     generalize ltI x.1 y.1=L at hbad hno' hnx hpre
     generalize gV x y=cv at hbad kc
     generalize iW x.1 y.1=pv at hbad kb
     generalize iW y.1 x.1=pw at hpre kb2
     generalize aE x.1=ix at gx kc kb kb2
     generalize aE y.1=iy at gy kc kb kb2
     cases hd:decide (cv ≥ 0) with
     |true=>
      have hL:L=false:=by rw [hd] at hbad;simpa using hbad.symm
      have hv:=hno' hL
      repeat' (first|(refine u'S ?_;simp only [wS,simprocAttr,gx,gy,hA,hB,c2,f3,hd,Bool.not_true,Bool.not_false])|refine u'Q fun _ _=>?_|refine aO ?_|refine aP (fun hg=>?_) fun hg=>?_|refine u'G ?_|fail)
      refine aB rfl ?_
      simp only [wS,simprocAttr]
      rw [hv]
     |false=>
      rw [hd,Bool.false_or] at hbad
      cases pv with
      |true=>
       have hL:L=false:=by simpa using hbad.symm
       have hv:=hno' hL
       repeat' (first|(refine u'S ?_;simp only [wS,simprocAttr,gx,gy,hA,hB,c2,f3,hd,Bool.not_true,Bool.not_false])|refine u'Q fun _ _=>?_|refine aO ?_|refine aP (fun hg=>?_) fun hg=>?_|refine u'G ?_|fail)
       refine aB rfl ?_
       simp only [wS,simprocAttr]
       rw [hv]
      |false=>
       have hL:L=true:=by simpa using hbad.symm
       have hpw:=hpre hL
       subst hpw
       repeat' (first|(refine u'S ?_;simp only [wS,simprocAttr,gx,gy,hA,hB,c2,f3,hd,Bool.not_true,Bool.not_false])|refine u'Q fun _ _=>?_|refine aO ?_|refine aP (fun hg=>?_) fun hg=>?_|refine u'G ?_|fail)
       refine hK2.go ⟨k+1,hlk,hnx hL⟩ (Weak.ref ⟨?_,.inr ⟨by first|exact Nat.zero_le _|exact Nat.le_refl _|simp,?_,fun g cs hg=>aD (hG0 g cs hg),?_,?_⟩⟩) (by simp only;omega)
       ·exact u'p
       ·exact u'p
       ·intro z hz
        simp only [List.mem_cons,List.not_mem_nil,or_false] at hz
        rcases hz with rfl|rfl|rfl<;>first|rfl|rfl
       ·simp only [List.all_cons,List.all_nil,Bool.and_true,Bool.and_eq_true];try exact (by simp only [aG,inL,inR,Bool.true_and,Bool.and_true];exact aA ht)
    ·have c2:decide (((k:Nat):Int)<((i:Nat):Int))=false:=by simp;omega
     have hki:k=i:=by omega
     have hnx:∀ (a b:Nat) (x y:Si),a<b→b<i+1→M[a]? =some x→M[b]? =some y→ltI x.1 y.1=true:=fun a b x' y' hab hb hx' hy'=>by
      by_cases e:b=i
      ·subst e
       rw [hy] at hy'
       cases hy'
       exact hks a x' (by omega) hx'
      ·exact hlts a b x' y' hab (by omega) hx' hy'
     repeat' (first|(refine u'S ?_;simp only [wS,simprocAttr,c2,e3])|refine u'Q fun _ _=>?_|refine aO ?_|refine aP (fun hg=>?_) fun hg=>?_|fail)
     refine hK1.go ⟨i+1,hlt,hnx⟩ (Weak.ref ⟨?_,.inr ⟨by first|exact Nat.zero_le _|exact Nat.le_refl _|simp,?_,fun g cs hg=>aD (hG0 g cs hg),?_,?_⟩⟩) (by simp only;omega)
     ·exact u'p
     ·exact u'p
     ·intro z hz
      simp only [List.mem_cons,List.not_mem_nil,or_false] at hz
      rcases hz with rfl|rfl<;>first|rfl|rfl
     ·simp only [List.all_cons,List.all_nil,Bool.and_true,Bool.and_eq_true];try exact (by simp only [aG,inL,inR,Bool.true_and,Bool.and_true];exact aA ht)
  ·have c1:decide (((i:Nat):Int)<((MC.length:Nat):Int))=false:=by simp;omega
   have hv:=hyes fun j x y hx hy=>hlts j (j+1) x y (by omega) (by have:=(List.getElem?_eq_some_iff.1 hy).1;omega) hx hy
   repeat' (first|(refine u'S ?_;simp only [wS,simprocAttr,c1])|refine u'Q fun _ _=>?_|refine aO ?_|refine aP (fun hg=>?_) fun hg=>?_|fail)
   refine aB rfl ?_
   simp only [wS,simprocAttr]
   rw [hv,hn]
   simp;omega
set_option maxHeartbeats 8000000 in
theorem Q2 (c:T) (hc:T.size c≤1000000000000) (O:List OpT) (hO:∀ o∈O,OpB o) (M:List Si) (hM:M.length≤1000000000000000) (hp:∀ s∈M,s.1.length≤2000000000000):Pure Tryz.prog G0 13 [.agg (T.enc c),.sl false (O.map opC),mV M] (jS c O M):=by
 have hM0:True:=trivial
 have hst:∀ (i:Nat) (s:Si),M[i]? =some s→Pure Tryz.prog G0 41 [.agg (T.enc c),.sl false (O.map opC),.agg [.sl false (aE s.1),.int .i64 s.2]] (fJ (eU c O s)):=fun i s h=>KR c (by omega) O hO s (hp s (List.mem_of_getElem? h))
 have ka:=O1 M hM fun s hs=>by have:=hp s hs;omega
 have kco:=Q0 _ c (Nat.le_refl _) (by omega)
 simp only [mV] at ka ⊢
 have ht:=cK M
 have hn:=gQ M
 have hg:=fun (i:Nat) (s:Si)=>jG (M:=M) (i:=i) (s:=s)
 have hOt:=eI O
 have htr:=T.enc_tree c
 obtain ⟨res,hres⟩:∃ r,r=fX c O c M:=⟨_,rfl⟩
 have hrt:=xM (fX c O c M)
 have hrV:inR aC (jS c O M)=true:=by
  rw [jS];split
  ·exact hrt
  ·rfl
 rw [jS,← hres] at hrV ⊢
 generalize mC M=MC at ht hn hg ka ⊢
 generalize O.map opC=OL at hOt hst ⊢
 obtain ⟨ca,cb,cc,cd,hce⟩:=aI c
 rw [hce] at kco htr ⊢
 refine aU hG0 Tryz.func13 rfl (by kernel_rfl) (by simp [Tryz.ntmps13]) (by simp only [inL,inR,hOt,ht,Bool.true_and,Bool.and_true] at htr ⊢;exact htr) (by exact hrV) ?_
 simp only [Tryz.ntmps13,aH,Nat.reduceAdd]
 cases hA:dE M with
 |false=>
  rw [hA] at ka
  simp only [hA,Bool.false_eq_true,if_false]
  repeat' (first|(refine u'S ?_;simp only [wS,simprocAttr,Bool.not_true,Bool.not_false])|refine u'Q fun _ _=>?_|refine aO ?_|refine aP (fun hg=>?_) fun hg=>?_|refine u'G ?_|fail)
  refine aX (v:=.agg [.int .i64 0,.int .i64 0,.int .i64 0,.sl true []]) rfl ?_ ?_
  ·simp only [wS,simprocAttr]
  ·simp only [wS,simprocAttr]
   rfl
 |true=>
  rw [hA] at ka
  simp only [hA,if_true]
  have hM3:M.length≤3:=by
   simp only [dE,Bool.and_eq_true,decide_eq_true_eq] at hA
   exact hA.2
  have hlt':=@oN M hA
  repeat' (first|(refine u'S ?_;simp only [wS,simprocAttr,Bool.not_true,Bool.not_false])|refine u'Q fun _ _=>?_|refine aO ?_|refine aP (fun hg=>?_) fun hg=>?_|refine u'G ?_|fail)
  refine aJ (α:={y:Nat × T // y.1≤M.length∧fX c O y.2 (M.drop y.1)=res∧T.wd y.2∧∀ (j:Nat) (s:Si),y.1≤j→M[j]? =some s→T.sub y.2 s.1=T.sub c s.1}) (fun y=>[(1,.sl false OL),(3,.ptr 0 0 0),(6,.ptr 2 0 0),(8,.ptr 3 0 0),(22,.sl false MC),(23,.int .i64 (MC.length:Nat)),(24,.int .i64 (y.1.1:Nat))]) (fun y=>[.cells 0 [.int .i64 ca,.int .i64 cb,.int .i64 cc,.sl false cd],.cells 0 [.sl false MC],.cells 0 [.int .i64 0,.int .i64 0,.int .i64 0,.sl true []],.cells 0 (T.enc y.1.2)]) (fun y=>M.length - y.1.1) ⟨(0,c),Nat.zero_le _,hres.symm,T.wd_of (by show T.size c≤_;omega),fun j s _ _=>rfl⟩ (Weak.ref ⟨?_,.inl ?_⟩) ?_
  ·exact u'p
  ·simp only [wS,simprocAttr,hce];try exact rfl
  ·rintro ⟨⟨i,y⟩,hi,hmk,hsz,hsub⟩ K hK
   simp only at hi hmk hsz hsub
   have hyt:=T.enc_tree y
   by_cases hlt:i<M.length
   ·have c1:decide (((i:Nat):Int)<((MC.length:Nat):Int))=true:=by simp;omega
    have e3:=aL (k:=i) hlt (by omega)
    obtain ⟨s,hs⟩:∃ s,M[i]? =some s:=⟨_,List.getElem?_eq_getElem hlt⟩
    have gs:=hg i s hs
    have hA':i<MC.length:=by omega
    have hd:M.drop i=s::M.drop (i+1):=by
     obtain ⟨q1,q2⟩:=List.getElem?_eq_some_iff.1 hs
     rw [List.drop_eq_getElem_cons q1,q2]
    rw [hd,fX] at hmk
    have kst:=hst i s hs
    rw [hce] at kst
    obtain ⟨ya,yb,yc,yd,hye⟩:=aI y
    cases hx:eU c O s with
    |none=>
     rw [hx] at hmk kst
     simp only at hmk
     simp only [fJ] at kst
     generalize aE s.1=is at gs kst
     subst hmk
     simp only [hye]
     repeat' (first|(refine u'S ?_;simp only [wS,simprocAttr,gs,hA',c1,Bool.not_true,Bool.not_false])|refine u'Q fun _ _=>?_|refine aO ?_|refine aP (fun hg=>?_) fun hg=>?_|refine u'G ?_|fail)
     refine aX (v:=.agg [.int .i64 0,.int .i64 0,.int .i64 0,.sl true []]) rfl ?_ ?_
     ·simp only [wS,simprocAttr]
     ·simp only [wS,simprocAttr]
      rfl
    |some x=>
     obtain ⟨n,o,h1,h2,h3,h4⟩:=qC hx
     have hxs:T.wd x:=UR (Nat.le_trans (T.sub_size h1) hc) h4
     have hsy:T.sub y s.1=some n:=by rw [hsub i s (Nat.le_refl _) hs,h1]
     have kse:=J6 y x n s.1 (hp s (List.mem_of_getElem? hs)) hsz hxs hsy
     have hzw:=T.set_wd s.1 hsz hxs
     have hsub':∀ (j:Nat) (s':Si),i+1≤j→M[j]? =some s'→T.sub (T.set y s.1 x) s'.1=T.sub c s'.1:=fun j s' hj hs'=>by
      rw [T.sub_set y x (hlt' (by omega) hs hs'),hsub j s' (by omega) hs']
     rw [hx] at hmk kst
     simp only at hmk
     simp only [fJ] at kst
     generalize hz:T.set y s.1 x=z at hmk kse hzw hsub'
     generalize aE s.1=is at gs kst kse
     have hzt:=T.enc_tree z
     obtain ⟨xa,xb,xc,xd,hxe⟩:=aI x
     obtain ⟨za,zb,zc',zd,hze⟩:=aI z
     rw [hye,hxe,hze] at kse
     rw [hxe] at kst
     simp only [hye]
     have e0:((0:Int) != 0)=false:=rfl
     repeat' (first|(refine u'S ?_;simp only [wS,simprocAttr,gs,hA',c1,e3,e0,Bool.not_true,Bool.not_false])|refine u'Q fun _ _=>?_|refine aO ?_|refine aP (fun hg=>?_) fun hg=>?_|refine u'G ?_|fail)
     refine hK.go ⟨(i+1,z),hlt,hmk,hzw,hsub'⟩ (Weak.ref ⟨?_,.inr ⟨by first|exact Nat.zero_le _|exact Nat.le_refl _|simp,?_,fun g cs hg=>aD (hG0 g cs hg),?_,?_⟩⟩) (by simp only;omega)
     ·exact u'p
     ·simp only [wS,simprocAttr,hze];try exact rfl
     ·intro z hz
      simp only [List.mem_cons,List.not_mem_nil,or_false] at hz
      rcases hz with rfl|rfl|rfl|rfl|rfl|rfl|rfl<;>first|rfl|(simp only [inR];first|exact aA hOt|exact aA ht)
     ·simp only [List.all_cons,List.all_nil,Bool.and_true,Bool.and_eq_true];try exact ⟨aD htr,aD (by simp only [inL,inR,ht,Bool.and_self]),rfl,aD hzt⟩
   ·have c1:decide (((i:Nat):Int)<((MC.length:Nat):Int))=false:=by simp;omega
    have hyw:=T.wk_enc y
    rw [show i=M.length by omega,List.drop_length,fX] at hmk
    subst hmk
    obtain ⟨ya,yb,yc,yd,hye⟩:=aI y
    rw [hye] at hyw
    simp only [hye]
    repeat' (first|(refine u'S ?_;simp only [wS,simprocAttr,c1])|refine u'Q fun _ _=>?_|refine aO ?_|refine aP (fun hg=>?_) fun hg=>?_|fail)
    refine aX (v:=.agg [.int .i64 ya,.int .i64 yb,.int .i64 yc,.sl false yd]) rfl ?_ ?_
    ·simp only [wS,simprocAttr]
    ·simp only [wS,simprocAttr]
     rw [JV,hye,AM.wk,wkL,AM.wk,hyw,wkL,AM.wk,wkL]
end Go.Proofs.YtggflhbigolakaaGreatDoor
