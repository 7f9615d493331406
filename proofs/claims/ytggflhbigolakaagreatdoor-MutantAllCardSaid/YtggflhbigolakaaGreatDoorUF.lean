import Derived.Test.YtggflhbigolakaaGreatDoorSH
import Derived.Test.YtggflhbigolakaaGreatDoorSM
import Derived.Test.YtggflhbigolakaaGreatDoorAE
import Derived.Test.YtggflhbigolakaaGreatDoorSC
import Derived.Test.YtggflhbigolakaaGreatDoorSD
set_option linter.unusedVariables false
set_option linter.unusedSimpArgs false
namespace Go.Proofs.YtggflhbigolakaaGreatDoor
open Go.AM
attribute [local irreducible] cG bG bI bL bW bZ aQ aV bN
set_option maxRecDepth 100000
set_option maxHeartbeats 4000000 in
theorem W0 (t:T) (p:List Int) (hp:p.length<=2000000000000) (ht:T.wd t):Pure Tryz.prog G0 24 [.agg (T.enc t),.sl false (aT p)] (gG (T.sub t p)):=by
 have htr:=T.enc_tree t
 obtain ⟨res,hres⟩:∃ r,r=T.sub t p:=⟨_,rfl⟩
 have hrt:=mZ res
 rw [<- hres]
 have hpr:cQ aE (aT p)=true:=bD p
 have hpl:(aT p).length=p.length:=by simp [aT]
 have hpg:∀ (i:Nat) (x:Int),p[i]? =some x->(aT p)[i]? =some [.int .i64 x]:=fun i x h=>by simp [aT,h]
 generalize aT p=ip at hpr hpl hpg ⊢
 refine bH bX Tryz.func24 rfl (by kernel_rfl) (by simp [Tryz.ntmps24]) (by simp only [aP,aI,htr,hpr,ai]) (by exact hrt) ?_
 simp only [Tryz.ntmps24,aK,Nat.reduceAdd]
 obtain ⟨ta,tb,tc,td,hte⟩:=aN t
 rw [hte]
 refine aF
 refine aJ (α:={x:Nat × T // x.1<=p.length/\T.sub x.2 (p.drop x.1)=res/\T.wd x.2}) (fun x=>[(2,.ptr 0 0 0),(4,.ptr 1 0 0),(8,.sl false ip),(9,.int .i64 (ip.length:Nat)),(10,.int .i64 (x.1.1:Nat))]) (fun x=>[.cells 0 (T.enc x.1.2),.cells 0 [.int .i64 0,.int .i64 0,.int .i64 0,.sl true []]]) (fun x=>p.length - x.1.1) ⟨(0,t),az _,hres.symm,ht⟩ (Weak.ref ⟨?_,.inl ?_⟩) ?_
 .exact aZ
 .simp only [wS,simprocAttr,hte];try exact rfl
 .rintro ⟨⟨i,x⟩,hi,hs,hz⟩ K3 hK3
  simp only at hi hs hz
  have hxt:=T.enc_tree x
  by_cases hlt:i<p.length
  .have c1:decide (((i:Nat):Int)<((ip.length:Nat):Int))=true:=by simp;omega
   have hA:i<ip.length:=by omega
   obtain ⟨q,hq⟩:∃ q,p[i]? =some q:=⟨_,ah hlt⟩
   have hg:=hpg i q hq
   have e3:=aO (k:=i) hlt (by omega)
   have hd:p.drop i=q::p.drop (i+1):=by
    obtain ⟨q1,q2⟩:=aq.1 hq
    rw [cg q1,q2]
   rw [hd,T.sub] at hs
   have hxl:=T.encs_len x.kids
   by_cases hq0:0<=q
   .rw [if_pos hq0] at hs
    obtain ⟨xk,xn,xm,xs⟩:=x
    simp only [T.kids] at hs hxl
    obtain ⟨qn,rfl⟩:∃ j:Nat,q=j:=⟨q.toNat,by omega⟩
    simp only [ax] at hs
    have c2:decide (((qn:Nat):Int)<0)=false:=by simp
    cases hxs:xs[qn]? with
    |none=>
     rw [hxs] at hs
     have hql:xs.length<=qn:=List.getElem?_eq_none_iff.1 hxs
     simp only [T.enc] at hxt ⊢
     generalize T.encs xs=XE at hxl hxt
     have c3:decide (((qn:Nat):Int) >= ((XE.length:Nat):Int))=true:=by simp;omega
     repeat' (first|(refine cC ?_;simp only [wS,simprocAttr,hg,hA,c1,c2,c3,e3])|refine aM|fail)
     refine bK (v:=.agg [.int .i64 0,.int .i64 0,.int .i64 0,.sl true []]) rfl ?_ ?_
     .refine aA
     .refine aA
      rw [<- hs];rfl
    |some y=>
     rw [hxs] at hs
     have gy:=T.encs_get hxs
     have hql:=(aq.1 hxs).1
     have hyz:T.wd y:=T.wds_mem hz.2 y (aj hxs)
     obtain ⟨ya,yb,yc,yd,hye⟩:=aN y
     have hyt:=T.enc_tree y
     rw [hye] at gy
     simp only [T.enc] at hxt ⊢
     generalize T.encs xs=XE at gy hxl hxt
     have c3:decide (((qn:Nat):Int) >= ((XE.length:Nat):Int))=false:=by simp;omega
     have hB:qn<XE.length:=by omega
     repeat' (first|(refine cC ?_;simp only [wS,simprocAttr,hg,hA,gy,hB,c1,c2,c3,e3])|refine aM|fail)
     refine hK3.go ⟨(i+1,y),hlt,hs,hyz⟩ aX (by simp only;omega)
     .exact aZ
     .simp only [wS,simprocAttr,hye];try exact rfl
     .intro z hz
      replace hz:=aC hz
      rcases hz with rfl|rfl|rfl|rfl|rfl<;>first|rfl|(simp only [aI];exact aB hpr)
     .refine aS;try exact ⟨bE (T.enc_tree _),rfl⟩
   .rw [if_neg hq0] at hs
    have c3:True:=trivial
    have c2:decide (q<0)=true:=by simp;omega
    obtain ⟨xa,xb,xc,xd,hxe⟩:=aN x
    rw [hxe]
    repeat' (first|(refine cC ?_;simp only [wS,simprocAttr,hg,hA,c1,c2,c3,e3])|refine aM|fail)
    refine bK (v:=.agg [.int .i64 0,.int .i64 0,.int .i64 0,.sl true []]) rfl ?_ ?_
    .refine aA
    .refine aA
     rw [<- hs];rfl
  .have c1:decide (((i:Nat):Int)<((ip.length:Nat):Int))=false:=by simp;omega
   rw [show i=p.length by omega,du,T.sub] at hs
   have kc:=lF _ x (ap _) hz
   have hxw:=T.wk_enc x
   obtain ⟨xa,xb,xc,xd,hxe⟩:=aN x
   rw [hxe] at kc hxw ⊢
   refine c7 c1
   refine bK (v:=.agg [.int .i64 xa,.int .i64 xb,.int .i64 xc,.sl false xd]) rfl ?_ ?_
   .refine aA
   .refine aA
    rw [<- hs,gG,hxe,AM.wk,wkL,AM.wk,hxw,wkL,AM.wk,wkL]
theorem aBh (t:T) (p:List Int) (hp:p.length<=2000000000000) (ht:T.size t<=2000000000000):Pure Tryz.prog G0 24 [.agg (T.enc t),.sl false (aT p)] (gG (T.sub t p)):=W0 t p hp (T.wd_of ht)
theorem FO:∀ (p:List Int) (t:T),p.length<=2000000000000->Pure Tryz.prog G0 42 [.agg (T.enc t),.sl false (aT p)] (gG (T.sub t p)):=by
 intro p
 induction p with
 |nil=>
  intro t _
  have htr:=T.enc_tree t
  have hwk:=T.wk_enc t
  obtain ⟨k,n,m,es⟩:=t
  simp only [T.sub,gG,T.enc,aT,bu] at htr hwk ⊢
  refine bH bX Tryz.func42 rfl (by kernel_rfl) (by simp [Tryz.ntmps42]) (by simp only [aP,aI,htr,cQ,ai] at htr ⊢;simp only [htr,ai]) (by simp only [aP,aI,ab,ac] at htr ⊢;exact htr) ?_
  simp only [Tryz.ntmps42,aK,Nat.reduceAdd]
  refine aF
  refine bK (v:=.agg [.int .i64 k,.int .i64 n,.int .i64 m,.sl false (T.encs es)]) rfl aZ ?_
  refine aA
  rw [AM.wk,wkL,AM.wk,hwk,wkL,AM.wk,wkL]
 |cons i p ih=>
  intro t hl
  have htr:=T.enc_tree t
  obtain ⟨res,hres⟩:∃ r,r=T.sub t (i::p):=⟨_,rfl⟩
  have hrt:=mZ res
  have htp:cQ aE (aT (i::p))=true:=bD _
  rw [<- hres]
  obtain ⟨k,n,m,es⟩:=t
  rw [T.sub] at hres
  have hln:=T.encs_len es
  have hgt:=fun (j:Nat) (e:T)=>T.encs_get (es:=es) (i:=j) (e:=e)
  simp only [af] at hl
  have hpl:(aT p).length=p.length:=by simp [aT]
  have hsl:(aT p).all (fun e=>decide (e.length=1))=true:=by simp [aT]
  have hin:aT (i::p)=[.int .i64 i]::aT p:=rfl
  rw [hin] at htp ⊢
  have htk:(aT p).take p.length=aT p:=bx (by omega)
  have hih:=fun t=>ih t (by omega)
  generalize aT p=IP at hpl hsl htp htk hih
  rw [<- hpl] at htk
  simp only [T.enc] at htr ⊢
  generalize T.encs es=E at hln hgt htr ⊢
  refine bH bX Tryz.func42 rfl (by kernel_rfl) (by simp [Tryz.ntmps42]) (by simp only [aP,aI,htp,ab,ac] at htr ⊢;exact htr) (by exact hrt) ?_
  simp only [Tryz.ntmps42,aK,Nat.reduceAdd]
  have e1:(((IP.length+1:Nat):Int)==0)=false:=by simp;omega
  have hle:(IP.length<=IP.length)=True:=by simp
  by_cases hi:0<=i
  .rw [if_pos hi] at hres
   obtain ⟨j,rfl⟩:∃ j:Nat,i=j:=⟨i.toNat,by omega⟩
   simp only [ax,T.kids] at hres
   have e2:decide (((j:Nat):Int)<0)=false:=by simp
   cases he:es[j]? with
   |none=>
    rw [he] at hres
    simp only at hres
    have hql:es.length<=j:=List.getElem?_eq_none_iff.1 he
    have e3:decide (((j:Nat):Int) >= ((E.length:Nat):Int))=true:=by simp;omega
    repeat' (first|(refine cC ?_;simp only [wS,simprocAttr,e1,e2,e3,af,fw])|refine aM|fail)
    refine bK (v:=.agg [.int .i64 0,.int .i64 0,.int .i64 0,.sl true []]) rfl ?_ ?_
    .refine aA
    .refine aA
     rw [hres];rfl
   |some e=>
    rw [he] at hres
    simp only at hres
    have hlt:j<es.length:=(aq.1 he).1
    have hg:=hgt j e he
    have e3:decide (((j:Nat):Int) >= ((E.length:Nat):Int))=false:=by simp;omega
    have hltE:j<E.length:=by omega
    have ke:=hih e
    rw [<- hres] at ke
    obtain ⟨ea,eb,ec,ed,hee⟩:=aN e
    rw [hee] at hg ke
    cases res with
    |none=>
     simp only [gG] at ke
     repeat' (first|(refine cC ?_;simp only [wS,simprocAttr,e1,e2,e3,hg,hltE,af,hle,if_true,hsl,htk,cj,fo,co,decide_true,ac])|refine aM|refine iP ?_|fail)
     refine bK (v:=.agg [.int .i64 0,.int .i64 0,.int .i64 0,.sl false []]) rfl ?_ ?_
     .refine aA
     .refine aA;rfl
    |some u=>
     have huw:=T.wk_enc u
     obtain ⟨ua,ub,uc,ud,hue⟩:=aN u
     simp only [gG] at ke
     rw [hue] at ke huw
     repeat' (first|(refine cC ?_;simp only [wS,simprocAttr,e1,e2,e3,hg,hltE,af,hle,if_true,hsl,htk,cj,fo,co,decide_true,ac])|refine aM|refine iP ?_|fail)
     refine bK (v:=.agg [.int .i64 ua,.int .i64 ub,.int .i64 uc,.sl false ud]) rfl ?_ ?_
     .refine aA
     .refine aA
      rw [gG,hue,AM.wk,wkL,AM.wk,huw,wkL,AM.wk,wkL]
  .rw [if_neg hi] at hres
   have e3:True:=trivial
   have e2:decide (i<0)=true:=by simp;omega
   repeat' (first|(refine cC ?_;simp only [wS,simprocAttr,e1,e2,e3,af,fw])|refine aM|fail)
   refine bK (v:=.agg [.int .i64 0,.int .i64 0,.int .i64 0,.sl true []]) rfl ?_ ?_
   .refine aA
   .refine aA
    rw [hres];rfl
def bt (m i:Nat):Nat:=m / 256 ^ i % 256
def y0 (m:Nat):Nat->Nat
 |0=>0
 |k+1=>if m / 256 ^ k=0 then y0 m k else k+1
def fl (neg:Bool) (x:Int):Int:=if neg then 255 - x else x
def bs (neg:Bool) (m:Nat):Nat->List Int
 |0=>[]
 |i+1=>fl neg (bt m i)::bs neg m i
def BD (n:Int):Nat:=if n<0 then (-1 - n).toNat else n.toNat
def nb (n:Int):Nat:=y0 (BD n) 8
def PH (neg:Bool) (k:Nat):Int:=if neg then 127 - k else 128+k
def c9 (n:Int):List Int:=PH (decide (n<0)) (nb n)::bs (decide (n<0)) (BD n) (nb n)
def cB (l:List Int):List (List AV):=l.map fun b=>[.int .u8 b]
theorem fE:∀ l:List Int,cQ aE (cB l)=true
 | []=>rfl
 |x::l=>by
  have:=fE l
  simp only [cB,ay,cQ,aP,aI,ac] at this ⊢
  exact this
theorem eK (l:List Int):(cB l).length=l.length:=bp ..
theorem mW (l:List Int):∀ e∈cB l,e.length=1:=fun e he=>by
 obtain ⟨x,_,rfl⟩:=cf.1 he
 rfl
theorem n0 (a b:List Int):cB (a++b)=cB a++cB b:=dq
theorem FV (m:Nat):∀ k,y0 m k<=k
 |0=>ap _
 |k+1=>by
  have:=FV m k
  rw [y0];split<;>omega
theorem GV (neg:Bool) (m:Nat):∀ i,(bs neg m i).length=i
 |0=>rfl
 |i+1=>by rw [bs,af,GV]
theorem mR (n:Int):1<=(c9 n).length/\(c9 n).length<=9:=by
 have:=FV (BD n) 8
 rw [c9,af,GV,nb];omega
theorem O6 (m q:Nat):(m:Int).fdiv (2 ^ (8*q))=((m / 256 ^ q:Nat):Int):=by
 have h:(2:Int) ^ (8*q)=((256 ^ q:Nat):Int):=by
  rw [Int.pow_mul];simp
 rw [h,Int.fdiv_eq_ediv_of_nonneg _ (Int.natCast_nonneg _)]
 simp
theorem nB (x:Nat):IntKind.u8.wrap (x:Int)=((x % 256:Nat):Int):=by
 unfold IntKind.wrap
 simp [IntKind.signed,IntKind.bits]
theorem aBH:∀ x:Nat,x<256->IntKind.u8.wrap ((BitVec.ofInt 8 (x:Int) ^^^ BitVec.ofInt 8 0).toNat:Int)=(x:Int):=by
 have:∀ x:Fin 256,IntKind.u8.wrap ((BitVec.ofInt 8 (x.1:Int) ^^^ BitVec.ofInt 8 0).toNat:Int)=(x.1:Int):=by decide +kernel
 exact fun x hx=>this ⟨x,hx⟩
theorem WU:∀ x:Nat,x<256->IntKind.u8.wrap ((BitVec.ofInt 8 (x:Int) ^^^ BitVec.ofInt 8 255).toNat:Int)=255 - (x:Int):=by
 have:∀ x:Fin 256,IntKind.u8.wrap ((BitVec.ofInt 8 (x.1:Int) ^^^ BitVec.ofInt 8 255).toNat:Int)=255 - (x.1:Int):=by decide +kernel
 exact fun x hx=>this ⟨x,hx⟩
theorem RX (neg:Bool) (x:Nat) (hx:x<256):IntKind.u8.wrap ((BitVec.ofInt IntKind.u8.bits (x:Int) ^^^ BitVec.ofInt IntKind.u8.bits (fl neg 0)).toNat:Int)=fl neg (x:Int):=by
 cases neg
 .exact aBH x hx
 .exact WU x hx
theorem w8 (x:Int):IntKind.u64.wrap x=x % 18446744073709551616:=by
 unfold IntKind.wrap
 simp [IntKind.signed,IntKind.bits]
theorem aAE (n:Int) (h1:n<0) (h2: -9223372036854775808<=n):IntKind.u64.wrap ((BitVec.ofInt IntKind.u64.bits IntKind.u64.max ^^^ BitVec.ofInt IntKind.u64.bits (IntKind.u64.wrap n)).toNat:Int)= -1 - n:=by
 have h3:IntKind.u64.wrap n=n+18446744073709551616:=by rw [w8];omega
 have h4:BitVec.ofInt IntKind.u64.bits IntKind.u64.max=BitVec.allOnes 64:=rfl
 rw [h3,h4]
 show IntKind.u64.wrap ((BitVec.allOnes 64 ^^^ BitVec.ofInt 64 (n+18446744073709551616)).toNat:Int)=_
 rw [BitVec.allOnes_xor,BitVec.toNat_not,BitVec.toNat_ofInt,w8]
 have h5:((n+18446744073709551616) % ((2 ^ 64:Nat):Int)).toNat=(n+18446744073709551616).toNat:=by
  rw [Int.emod_eq_of_lt (by omega) (by omega)]
 rw [h5]
 omega
def iw (v:Nat) (app:List Int):AV:=if app.length=1 then .sl true (cB app) else rv 0 v 1 (cB app)
def iR (v:Nat) (app:List Int):List ARow:=if app.length=1 then [] else [eX v (cB app)]
theorem jP {l:List Int} (h:l≠[]):cB l≠[]:=fun e=>h (List.map_eq_nil_iff.1 e)
set_option maxHeartbeats 4000000 in
theorem S1 (n:Int) (hn:bR n) (c:Code) (hc:Tryz.f99.body=some c) (R:AV->AS->Prop) (h0:nb n=0->∀ s,R (.sl true (cB (c9 n))) s) (h1:nb n≠0->∀ s v,s.row 0=.cells v (cB (c9 n)).flatten->R (.osl 0 v 0 (c9 n).length 1 false) s):cG Tryz.prog G0 47 0 c (eR Tryz.prog Tryz.f99 R) ⟨eJ [(0,.int .i64 n)],[]⟩:=by
 obtain rfl:_=c:=ir hc
 clear hc
 obtain ⟨neg,hneg⟩:∃ b,b=decide (n<0):=⟨_,rfl⟩
 obtain ⟨M,hM⟩:∃ m,m=BD n:=⟨_,rfl⟩
 have hMb:M<256 ^ 8:=by rw [hM,BD];have:=hn.1;have:=hn.2;split<;>omega
 have hB:c9 n=PH neg (y0 M 8)::bs neg M (y0 M 8):=by rw [c9,nb,<- hM,<- hneg]
 rw [nb,<- hM] at h0 h1
 have hK8:=FV M 8
 refine cR fun K0 hK0=>?_
 refine gB
 refine hK0.go ?_
 refine E9 ?_
 refine cR fun Ka hKa=>?_
 refine gB
 refine hKa.go ?_
 refine cR fun Kb hKb=>?_
 have key : ∀ s, Ref G0 47 0 s ⟨eJ [(0, .int .i64 n), (3, .int .u64 (M : Nat)), (4, .int .u8 (fl neg 0))], []⟩ -> Kb s := fun s hr => by
  refine hKb.go (cK hr ?_)
  clear hr hKb hKa hK0
  refine gB
  rename_i Kc hKc
  refine hKc.go ?_
  refine cR fun Kf hKf=>?_
  refine EA ?_
  refine hKf.go ?_
  refine cR fun Kd hKd=>?_
  replace hKd:=aa trivial hKd
  have key2:∀ s,Ref G0 47 0 s ⟨eJ [(3,.int .u64 (M:Nat)),(4,.int .u8 (fl neg 0)),(5,.int .i64 (y0 M 8:Nat))],[]⟩->Kd s:=fun s hr=>by
   refine hKd.2.go (cK hr ?_)
   clear hr hKd hKf hKc
   generalize y0 M 8=K at hB hK8 h0 h1
   have e5:IntKind.i64.wrap (128+(K:Int))=((128+K:Nat):Int):=by rw [bC (by omega) (by omega)];omega
   have e6:IntKind.u8.wrap ((128+K:Nat):Int)=((128+K:Nat):Int):=by rw [nB,jb (by omega)]
   have e7:=RX neg (128+K) (by omega)
   have e8:IntKind.i64.wrap ((K:Int) - 1)=(K:Int) - 1:=bC (by omega) (by omega)
   have hh:fl neg ((128+K:Nat):Int)=PH neg K:=by cases neg<;>simp only [fl,PH,if_true,if_false,aw]<;>omega
   rw [hh] at e7
   refine aR (dV e5 e6 e7 e8)
   refine aJ (α:={p:List Int × Nat × Nat // p.2.1<=K/\c9 n=p.1++bs neg M p.2.1/\p.1.length+p.2.1=K+1/\p.1≠[]}) (fun p=>[(3,.int .u64 (M:Nat)),(4,.int .u8 (fl neg 0)),(6,iw p.1.2.2 p.1.1),(7,.int .i64 ((p.1.2.1:Int) - 1))]) (fun p=>iR p.1.2.2 p.1.1) (fun p=>p.1.2.1) ⟨([PH neg K],K,0),ap _,hB,by simp;omega,by simp⟩ (Weak.ref ⟨?_,.inl ?_⟩) ?_
   .simp only [wS,simprocAttr,iw,af,ak,cB,ay,bu];try exact rfl
   .simp only [wS,simprocAttr,iR,af,ak];try exact rfl
   .rintro ⟨⟨app,r,v⟩,hr,happ,hlen,hne⟩ K1 hK1
    try simp only at hr happ hlen hne
    have hcl:=eK app
    have hcn:=jP hne
    cases r with
    |zero=>
     have c0:decide (((0:Nat):Int) - 1 >= 0)=false:=rfl
     rw [bs,br] at happ
     subst happ
     by_cases hK:K=0
     .have hl1:(c9 n).length=1:=by omega
      have:=h0 hK
      simp only [iw,iR,if_pos hl1]
      refine aR c0
      refine aa rfl (aD rfl ?_)
      refine aA
      exact this _
     .have hl1:¬ (c9 n).length=1:=by omega
      have:=h1 hK
      simp only [iw,iR,if_neg hl1,qZ hcn,mA hcn,hcl]
      refine aR c0
      refine aa rfl (aD rfl ?_)
      refine aA
      exact this _ v rfl
    |succ q=>
     have e9:((q+1:Nat):Int) - 1=(q:Int):=by omega
     have c0:decide ((q:Int) >= 0)=true:=by simp
     have e2:IntKind.i64.wrap (8*(q:Int))=((8*q:Nat):Int):=by rw [bC (by omega) (by omega)];omega
     have e8':IntKind.i64.wrap ((q:Int) - 1)=(q:Int) - 1:=bC (by omega) (by omega)
     have c1:(((8*q:Nat):Int)<0)=False:=eq_false (by omega)
     have c2:(M:Int).fdiv (2 ^ min (8*q) IntKind.u64.bits)=((M / 256 ^ q:Nat):Int):=by
      rw [show min (8*q) IntKind.u64.bits=8*q from jn (by show 8*q<=64;omega)];exact O6 M q
     have e3:=nB (M / 256 ^ q)
     have e4:=RX neg (M / 256 ^ q % 256) (Nat.mod_lt _ (by decide))
     rw [bs,bt] at happ
     generalize hx:fl neg ((M / 256 ^ q % 256:Nat):Int)=x at e4 happ
     have happ':c9 n=(app++[x])++bs neg M q:=by rw [happ,bj];rfl
     have hl2:¬ (app++[x]).length=1:=by have:=fh.2 hne;simp;omega
     have hcs:cB (app++[x])=cB app++[[.int .u8 x]]:=n0 _ _
     simp only [e9]
     by_cases hl1:app.length=1
     .obtain ⟨h,rfl⟩:∃ h,app=[h]:=List.length_eq_one_iff.1 hl1
      simp only [iw,iR,if_pos hl1]
      refine aR (f9 c0 c1 c2 e2 e3 e4)
      refine fO (es:=cB [h]) (sz:=1) (by':=1) (mm:=1) (new:=[.int .u8 x]) (by kernel_rfl) rfl rfl rfl (by decide) (by simp [cB]) ?_
      refine aA
      refine aR e8'
      refine hK1.go ⟨([h]++[x],q,0),by show q<=K;omega,happ',by simp at hlen ⊢;omega,by simp⟩ (Weak.ref ⟨?_,.inl ?_⟩) (by simp only;omega)
      .simp only [wS,simprocAttr,iw,if_neg hl2,hcs,cB,rv,ay,bu,ar,ba,reduceCtorEq];try exact rfl
      .simp only [wS,simprocAttr,iR,if_neg hl2,hcs,cB,eX,ay,bu,ar,ba,reduceCtorEq];try exact rfl
     .simp only [iw,iR,if_neg hl1]
      refine aR (f9 c0 c1 c2 e2 e3 e4)
      refine cL (v':=v+1) (es:=[[.int .u8 x]]) (by':=1) (by kernel_rfl) aZ (by rw [if_neg hcn]) (mW app) (by simp [cW]) (by simp) (by rw [hcl];simp only [am];omega) ?_
      refine aA
      refine aR e8'
      refine hK1.go ⟨(app++[x],q,v+1),by show q<=K;omega,happ',by simp only [an,am];omega,by simp⟩ (Weak.ref ⟨?_,.inl ?_⟩) (by simp only;omega)
      .simp only [wS,simprocAttr,iw,if_neg hl2,hcs];try exact rfl
      .simp only [wS,simprocAttr,iR,if_neg hl2,hcs];try exact rfl
  refine aF
  refine aJ (α:={k:Nat // k<=8/\y0 M 8=y0 M k}) (fun k=>[(0,.int .i64 n),(3,.int .u64 (M:Nat)),(4,.int .u8 (fl neg 0)),(5,.int .i64 (k.1:Nat))]) (fun _=>[]) (fun k=>k.1) ⟨8,by decide,rfl⟩ (Weak.ref ⟨?_,.inl ?_⟩) ?_
  .exact aZ
  .exact aZ
  .rintro ⟨k,hk,hnb⟩ K1 hK1
   try simp only at hk hnb
   cases k with
   |zero=>
    refine aF
    refine key2 _ (Weak.ref ⟨?_,.inl ?_⟩)
    .rw [hnb,y0]
     exact aZ
    .exact aZ
   |succ k=>
    have e1:IntKind.i64.wrap (((k+1:Nat):Int) - 1)=(k:Int):=by rw [bC (by omega) (by omega)];omega
    have e2:IntKind.i64.wrap (8*(k:Int))=((8*k:Nat):Int):=by rw [bC (by omega) (by omega)];omega
    have c0:decide (((k+1:Nat):Int) > 0)=true:=by simp
    have c1:(((8*k:Nat):Int)<0)=False:=eq_false (by omega)
    have c2:(M:Int).fdiv (2 ^ min (8*k) IntKind.u64.bits)=((M / 256 ^ k:Nat):Int):=by
     rw [show min (8*k) IntKind.u64.bits=8*k from jn (by show 8*k<=64;omega)];exact O6 M k
    have hnk:y0 M (k+1)=if M / 256 ^ k=0 then y0 M k else k+1:=rfl
    rw [hnk] at hnb
    by_cases hz:M / 256 ^ k=0
    .rw [if_pos hz] at hnb
     have c3:decide (((M / 256 ^ k:Nat):Int) > 0)=false:=by rw [hz];rfl
     refine aR (f9 e1 e2 c0 c1 c2 c3)
     refine hK1.go ⟨k,by omega,hnb⟩ (Weak.ref ⟨?_,.inl ?_⟩) (by simp only;omega)
     .exact aZ
     .exact aZ
    .rw [if_neg hz] at hnb
     have c3:decide (((M / 256 ^ k:Nat):Int) > 0)=true:=by
      rw [decide_eq_true_eq]
      exact Int.natCast_pos.2 (Nat.pos_of_ne_zero hz)
     refine aR (f9 e1 e2 c0 c1 c2 c3)
     refine key2 _ (Weak.ref ⟨?_,.inl ?_⟩)
     .rw [hnb]
      exact aZ
     .exact aZ
 clear hKb
 by_cases hlt:n<0
 .have c0:decide (n<0)=true:=by simpa using hlt
  have hf:=aAE n hlt hn.1
  have hm:(M:Int)= -1 - n:=by rw [hM,BD,if_pos hlt];omega
  have hsg:IntKind.u64.signed=false:=rfl
  rw [c0] at hneg
  subst hneg
  repeat' (first|(refine cC ?_;simp only [wS,simprocAttr,c0,hsg,aw,if_false,hf])|refine aH|fail)
  refine key _ (Weak.ref ⟨?_,.inl ?_⟩)
  .rw [hm]
   simp only [wS,simprocAttr,fl,if_true,hsg,aw,if_false,hf];try exact rfl
  .exact aZ
 .have c0:decide (n<0)=false:=by simpa using hlt
  have hm:IntKind.u64.wrap n=(M:Int):=by
   rw [hM,BD,if_neg hlt,dc (by omega)]
   have:=hn.2
   rw [w8]
   exact Int.emod_eq_of_lt (by omega) (by omega)
  rw [c0] at hneg
  subst hneg
  refine aR (bF c0 hm)
  refine key _ (Weak.ref ⟨?_,.inl ?_⟩)
  .simp only [wS,simprocAttr,fl,if_false];try exact rfl
  .exact aZ
theorem HH (n:Int) (hn:bR n) (h:nb n≠0):NN Tryz.prog G0 99 [.int .i64 n] (c9 n).length 1 false (cB (c9 n)).flatten:=by
 refine iK bX Tryz.func99 rfl (by kernel_rfl) (by simp [Tryz.ntmps99]) (by simp [aP,aI]) (dK (fE _)) ?_
 simp only [Tryz.ntmps99,aK,Nat.reduceAdd]
 exact S1 n hn _ rfl _ (fun h'=>absurd h' h) fun _ s v hr=>⟨0,v,rfl,hr⟩
theorem ZX (n:Int) (hn:bR n) (h:nb n=0):Pure Tryz.prog G0 99 [.int .i64 n] (.sl true (cB (c9 n))):=by
 refine aL bX Tryz.func99 rfl (by kernel_rfl) (by simp [Tryz.ntmps99]) (by rfl) (by simp only [aI];exact fE _) ?_
 simp only [Tryz.ntmps99,aK,Nat.reduceAdd]
 exact S1 n hn _ rfl _ (fun _ s=>rfl) fun h'=>absurd h h'
theorem IH {r v n sz:Nat} {b:Bool} {cs:List AV} {rows:Nat->ARow} (h:rows r=.cells v cs) (hl:cs.length=n*sz):cW sz (.osl r v 0 n sz b) rows=some (n,cs):=by
 simp only [cW,aU,h,if_true,ij,cp,hl,ap,and_self,co]
 rw [bx (by omega)]
theorem GT:∀ l:List Int,(cB l).flatten.length=l.length
 | []=>rfl
 |x::l=>by
  have:=GT l
  simp only [cB,ay,cw,an,af,ak] at this ⊢
  omega
theorem N9 (l:List Int):(cB l).all (fun e=>decide (e.length=1))=true:=cl.2 fun e he=>by simpa using mW l e he
def jY (l:List Int):List Int:=c9 l.length++l.flatMap c9
theorem aAK (n:Nat) (h:1<=n) (h2:n<256 ^ 8):nb (n:Int)≠0:=by
 rw [nb,BD,if_neg (by omega),ax]
 suffices H:∀ k,n<256 ^ k->y0 n k≠0 from H 8 h2
 intro k
 induction k with
 |zero=>intro h';simp at h';omega
 |succ k ih=>
  intro h'
  rw [y0]
  split
  .rename_i h0
   exact ih (Nat.lt_of_div_eq_zero (Nat.pow_pos (by decide)) h0)
  .omega
theorem pM (l:List Int):(l.flatMap c9).length<=9*l.length:=by
 induction l with
 |nil=>simp
 |cons x l ih=>
  have:=(mR x).2
  rw [ig,an,af];omega
theorem tJ {l:List Int} {i:Nat} {x:Int} (h:l[i]? =some x):(l.take (i+1)).flatMap c9=(l.take i).flatMap c9++c9 x:=by
 rw [dh,h,List.flatMap_append];simp
theorem tG (n:Int):c9 n≠[]:=by rw [c9];exact List.cons_ne_nil _ _
set_option maxHeartbeats 8000000 in
theorem UQ (b:Bool) (l:List Int) (hl:∀ x∈l,bR x) (h1:1<=l.length) (h2:l.length<=1000000):NN Tryz.prog G0 66 [.sl b (l.map fun n=>[AV.int .i64 n])] (jY l).length 1 false (cB (jY l)).flatten:=by
 have hSm:bR (l.length:Int):=⟨by omega,by omega⟩
 have kl:=HH (l.length:Int) hSm (aAK _ h1 (by omega))
 have hil:=mR (l.length:Int)
 have hLt:cQ aE (l.map fun n=>[AV.int .i64 n])=true:=bD l
 have hLl:(l.map fun n=>[AV.int .i64 n]).length=l.length:=bp _
 have hLg:∀ (i:Nat) (x:Int),l[i]? =some x->(l.map fun n=>[AV.int .i64 n])[i]? =some [.int .i64 x]:=fun i x h=>by rw [bh,h];rfl
 have hA0:cB (c9 (l.length:Int))≠[]:=jP (tG _)
 have hB:jY l=c9 (l.length:Int)++l.flatMap c9:=rfl
 rw [hB]
 generalize hA:c9 (l.length:Int)=A at kl hil hA0
 generalize (l.map fun n=>[AV.int .i64 n])=EL at hLt hLl hLg ⊢
 refine iK bX Tryz.func66 rfl (by kernel_rfl) (by simp [Tryz.ntmps66]) (by simp only [aP,aI,hLt,ai]) (dK (fE _)) ?_
 simp only [Tryz.ntmps66,aK,Nat.reduceAdd]
 rw [<- hLl] at kl
 refine aF
 refine cM (kl _ 0 (by rfl)) ?_
 refine aA
 refine aF
 refine aJ (α:={p:Nat × Nat // p.1<=l.length}) (fun p=>[(3,rv 0 p.1.2 1 (cB (A++(l.take p.1.1).flatMap c9))),(9,.sl b EL),(10,.int .i64 (l.length:Nat)),(11,.int .i64 (p.1.1:Nat))]) (fun p=>[eX p.1.2 (cB (A++(l.take p.1.1).flatMap c9))]) (fun p=>l.length - p.1.1) ⟨(0,0),az _⟩ (Weak.ref ⟨?_,.inl ?_⟩) ?_
 .simp only [wS,simprocAttr,ci,gv,br,qZ hA0,eK,hLl];try exact rfl
 .simp only [wS,simprocAttr,ci,gv,br,mA hA0];try exact rfl
 .rintro ⟨⟨i,v⟩,hi⟩ K hK
  try simp only at hi
  have hne:A++(l.take i).flatMap c9≠[]:=fun e=>hA0 (by rw [(iv.1 e).1];rfl)
  have hfl:=pM (l.take i)
  rw [cr] at hfl
  have hal:(A++(l.take i).flatMap c9).length<=9000009:=by rw [an];omega
  by_cases hlt:i<l.length
  .have c1:decide (((i:Nat):Int)<((l.length:Nat):Int))=true:=by simp;omega
   have e3:=aO (k:=i) hlt (by omega)
   obtain ⟨x,hx⟩:∃ x,l[i]? =some x:=⟨_,ah hlt⟩
   have gx:=hLg i x hx
   have hB':i<EL.length:=by omega
   have hxs:=hl x (aj hx)
   have htk:A++(l.take (i+1)).flatMap c9=(A++(l.take i).flatMap c9)++c9 x:=by rw [tJ hx,bj]
   have hxl:=mR x
   have hrt:cQ aE (cB ((A++(l.take i).flatMap c9)++c9 x))=true:=fE _
   generalize hP:A++(l.take i).flatMap c9=P at hne hal htk hrt ⊢
   have hcP:=jP hne
   have hcx:=jP (tG x)
   by_cases hz:nb x=0
   .have kx:=ZX x hxs hz
    repeat' (first|(refine cC ?_;simp only [wS,simprocAttr,gx,hB',c1,e3])|refine aM|refine iP ?_|(refine cL (v':=v+1) (es:=cB (c9 x)) (by':=1) (by kernel_rfl) aZ (by rw [if_neg hcP]) (mW P) (nH (N9 _)) hcx (by rw [eK,eK];omega) ?_;simp only [wS,simprocAttr,<- n0,gx,hB',c1,e3]))
    refine hK.go ⟨(i+1,v+1),hlt⟩ aX (by simp only;omega)
    .simp only [wS,simprocAttr,htk];try exact rfl
    .simp only [wS,simprocAttr,htk];try exact rfl
    .intro z hz
     replace hz:=aC hz
     rcases hz with rfl|rfl|rfl|rfl<;>first|rfl|(simp only [aI];first|exact aB hLt|exact bU rfl)
    .refine aS;try exact bA (aB (by rw [htk];exact hrt))
   .have kx:=HH x hxs hz
    repeat' (first|(refine cC ?_;simp only [wS,simprocAttr,gx,hB',c1,e3])|refine aM|refine cM (kx _ 1 (by rfl)) (gR ?_)|(refine cL (v':=v+1) (es:=cB (c9 x)) (by':=1) (by kernel_rfl) aZ (by rw [if_neg hcP]) (mW P) (by rw [<- eK (c9 x)];exact IH aZ (by rw [GT,eK];omega)) hcx (by rw [eK,eK];omega) ?_;simp only [wS,simprocAttr,<- n0,gx,hB',c1,e3]))
    refine hK.go ⟨(i+1,v+1),hlt⟩ aX (by simp only;omega)
    .simp only [wS,simprocAttr,htk];try exact rfl
    .simp only [wS,simprocAttr,htk];try exact rfl
    .intro z hz
     replace hz:=aC hz
     rcases hz with rfl|rfl|rfl|rfl<;>first|rfl|(simp only [aI];first|exact aB hLt|exact bU rfl)
    .refine aS;try exact bA (aB (by rw [htk];exact hrt))
  .have c1:decide (((i:Nat):Int)<((l.length:Nat):Int))=false:=by simp;omega
   obtain rfl:i=l.length:=by omega
   rw [bi] at hne ⊢
   have hcn:=jP hne
   refine aR c1
   refine aD rfl ?_
   refine aA
   refine ⟨0,v,?_,?_⟩
   .rw [qZ hcn,eK]
   .rw [mA hcn];rfl
mutual
def T.rg:T->Prop
 | .mk k n m es=>bR k/\bR n/\bR m/\T.rgs es
def T.rgs:List T->Prop
 | []=>True
 |e::es=>T.rg e/\T.rgs es
end
mutual
def T.bytes:T->List Int
 | .mk k n m es=>jY [k,n,m,(es.length:Int)]++T.bytess es
def T.bytess:List T->List Int
 | []=>[]
 |e::es=>T.bytes e++T.bytess es
end
theorem T.rgs_mem:∀ {es:List T},T.rgs es->∀ e∈es,T.rg e
 |e::es,h,x,hx=>by
  rcases bn.1 hx with rfl|hx
  .exact h.1
  .exact T.rgs_mem h.2 x hx
theorem T.bytess_app:∀ (a b:List T),T.bytess (a++b)=T.bytess a++T.bytess b
 | [],b=>rfl
 |e::a,b=>by rw [ar,T.bytess,T.bytess,T.bytess_app a b,bj]
theorem T.bytess_take {es:List T} {i:Nat} {e:T} (h:es[i]? =some e):T.bytess (es.take (i+1))=T.bytess (es.take i)++T.bytes e:=by
 rw [dh,h,T.bytess_app];simp [T.bytess]
theorem qI (a b c d:Int):(jY [a,b,c,d]).length<=45/\jY [a,b,c,d]≠[]:=by
 have h1:=pM [a,b,c,d]
 have h2:=mR (([a,b,c,d]:List Int).length:Int)
 rw [jY]
 refine ⟨by rw [an];simp only [af,ak] at h1 h2 ⊢;omega,fun e=>?_⟩
 exact tG _ (iv.1 e).1
mutual
theorem T.bytes_len:∀ t:T,(T.bytes t).length<=45*T.size t
 | .mk k n m es=>by
  have h1:=(qI k n m (es.length:Int)).1
  have h2:=T.bytess_len es
  rw [T.bytes,T.size,an];omega
theorem T.bytess_len:∀ es:List T,(T.bytess es).length<=45*T.sizes es
 | []=>by simp [T.bytess,T.sizes]
 |e::es=>by
  have h1:=T.bytes_len e
  have h2:=T.bytess_len es
  rw [T.bytess,T.sizes,an];omega
end
theorem T.bytes_ne:∀ t:T,T.bytes t≠[]
 | .mk k n m es=>fun e=>(qI k n m (es.length:Int)).2 (iv.1 (by rw [T.bytes] at e;exact e)).1
theorem len_sizes (es:List T):es.length<=T.sizes es:=by
 induction es with
 |nil=>exact ap _
 |cons e es ih=>
  have:=T.size_pos e
  rw [T.sizes,af];omega
set_option maxHeartbeats 8000000 in
theorem V5:∀ (N:Nat) (t:T),T.size t<=N->N<=500000000000->T.rg t->Pure Tryz.prog G0 32 [.agg (T.enc t)] (.sl false (cB (T.bytes t))):=by
 intro N
 induction N with
 |zero=>intro t h;have:=T.size_pos t;omega
 |succ N ih=>
  intro t ht hN hrg
  have htr:=T.enc_tree t
  obtain ⟨k,n,m,es⟩:=t
  obtain ⟨hk,hn,hm,hes⟩:=hrg
  have hsz:=len_sizes es
  rw [T.size] at ht
  have ih2:∀ e∈es,Pure Tryz.prog G0 32 [.agg (T.enc e)] (.sl false (cB (T.bytes e))):=fun e he=>ih e (by have:=T.size_mem he;omega) (by omega) (T.rgs_mem hes e he)
  have hSm:bR (es.length:Int):=⟨by omega,by omega⟩
  have ki:=UQ true [k,n,m,(es.length:Int)] (by
   intro x hx
   replace hx:=aC hx
   rcases hx with rfl|rfl|rfl|rfl<;>assumption) (by simp) (by simp)
  have hi4:=qI k n m (es.length:Int)
  obtain ⟨res,hres⟩:∃ r,r=T.bytes (.mk k n m es):=⟨_,rfl⟩
  have hrl:=T.bytes_len (.mk k n m es)
  rw [<- hres] at hrl ⊢
  rw [T.bytes] at hres
  simp only [ay,bu] at ki
  generalize jY [k,n,m,(es.length:Int)]=A at ki hi4 hres
  have hA0:cB A≠[]:=jP hi4.2
  have hEl:=T.encs_len es
  have hEt:=T.encs_tree es
  have hEg:∀ (i:Nat) (e:T),es[i]? =some e->(T.encs es)[i]? =some (T.enc e):=fun i e h=>by rw [T.encs_map,bh,h];rfl
  have hst:∀ i,T.sizes (es.take i)<=T.sizes es:=fun i=>T.sizes_take_le es i
  rw [T.enc] at htr ⊢
  rw [<- hEl] at ki hsz hSm
  generalize T.encs es=EE at ki hEl hEt hEg hsz htr hSm ⊢
  refine aL bX Tryz.func32 rfl (by kernel_rfl) (by simp [Tryz.ntmps32]) (by simpa only [aP,aI,ab,ac] using htr) (by simp only [aI];exact fE _) ?_
  simp only [Tryz.ntmps32,aK,Nat.reduceAdd]
  refine aF
  refine cM (ki _ 1 (by rfl)) ?_
  refine aA
  refine aF
  refine aJ (α:={p:Nat × Nat // p.1<=es.length}) (fun p=>[(1,.ptr 0 0 0),(3,rv 1 p.1.2 1 (cB (A++T.bytess (es.take p.1.1)))),(18,.sl false EE),(19,.int .i64 (EE.length:Nat)),(20,.int .i64 (p.1.1:Nat))]) (fun p=>[.cells 0 [.int .i64 k,.int .i64 n,.int .i64 m,.sl false EE],eX p.1.2 (cB (A++T.bytess (es.take p.1.1)))]) (fun p=>es.length - p.1.1) ⟨(0,0),az _⟩ (Weak.ref ⟨?_,.inl ?_⟩) ?_
  .simp only [wS,simprocAttr,ci,T.bytess,br,qZ hA0,eK];try exact rfl
  .simp only [wS,simprocAttr,ci,T.bytess,br,mA hA0];try exact rfl
  .rintro ⟨⟨i,v⟩,hi⟩ K hK
   try simp only at hi
   have hne:A++T.bytess (es.take i)≠[]:=fun e=>hi4.2 (iv.1 e).1
   have hbl:=T.bytess_len (es.take i)
   have hsi:=hst i
   have hal:(A++T.bytess (es.take i)).length<=45*500000000001:=by rw [an];omega
   by_cases hlt:i<es.length
   .have c1:decide (((i:Nat):Int)<((EE.length:Nat):Int))=true:=by simp;omega
    have e3:=aO (k:=i) hlt (by omega)
    obtain ⟨e,he⟩:∃ e,es[i]? =some e:=⟨_,ah hlt⟩
    have ge:=hEg i e he
    have hB':i<EE.length:=by omega
    have ke:=ih2 e (aj he)
    have htk:A++T.bytess (es.take (i+1))=(A++T.bytess (es.take i))++T.bytes e:=by rw [T.bytess_take he,bj]
    have hxl:=T.bytes_len e
    have hse:=T.size_mem (aj he)
    have hxn:=T.bytes_ne e
    have het:=T.enc_tree e
    generalize hP:A++T.bytess (es.take i)=P at hne hal htk ⊢
    have hrt:cQ aE (cB (P++T.bytes e))=true:=fE _
    have hcP:=jP hne
    obtain ⟨ea,eb,ec,ed,hee⟩:=aN e
    rw [hee] at ge ke het
    generalize hx:T.bytes e=x at ke htk hxl hrt hxn
    have hcx:=jP hxn
    repeat' (first|(refine cC ?_;simp only [wS,simprocAttr,ge,hB',c1,e3])|refine aM|refine iP ?_|(refine cL (v':=v+1) (es:=cB x) (by':=1) (by kernel_rfl) aZ (by rw [if_neg hcP]) (mW P) (nH (N9 _)) hcx (by rw [eK,eK];omega) ?_;simp only [wS,simprocAttr,<- n0,ge,hB',c1,e3]))
    refine hK.go ⟨(i+1,v+1),hlt⟩ aX (by simp only;omega)
    .simp only [wS,simprocAttr,htk];try exact rfl
    .simp only [wS,simprocAttr,htk];try exact rfl
    .intro z hz
     replace hz:=aC hz
     rcases hz with rfl|rfl|rfl|rfl|rfl<;>first|rfl|(simp only [aI];first|exact aB hEt|exact bU rfl)
    .refine aS;try exact ⟨by simp only [aG,aP,aI,ac,ab];exact aB hEt,bA (aB (by rw [htk];exact hrt))⟩
   .have c1:decide (((i:Nat):Int)<((EE.length:Nat):Int))=false:=by simp;omega
    obtain rfl:i=es.length:=by omega
    rw [bi,<- hres] at hne ⊢
    have hrs:=mW res
    have hrt:=fE res
    refine cP c1
    refine Cont.go (by assumption) ?_
    refine cP c1
    refine Cont.go (by assumption) (cK (cA [1] (kp [0]) (l:=[(3,.sl false (cB res))]) (h:=[.cells 0 [.int .i64 k,.int .i64 n,.int .i64 m,.sl false EE]]) bX (fun r hr=>absurd hr (bm r)) ?_ ?_ ?_) ?_)
    .simp only [wS,simprocAttr,dL,iD,and_true,true_or];exact .inr (eA (v:=v) rfl (by simp) hrs hrt)
    .simp only [bg,bz,ab,aI];exact aB hrt
    .refine aA
     simp only [hY,and_true]
     exact ⟨kr rfl (by simp only [aG,aP,aI,ac,ab];exact aB hEt) (by simp),rfl⟩
    refine aF
    refine aD rfl ?_
    refine aA
def T.key (t:T):ByteArray:=pQ (T.bytes t)
theorem r7:∀ l:List Int,bytesOf (cB l)=some l
 | []=>rfl
 |x::l=>by
  have:=r7 l
  simp only [cB,ay,bytesOf] at this ⊢
  rw [this];rfl
theorem ZJ (t:T) (ht:T.size t<=500000000000) (hr:T.rg t):Pure Tryz.prog G0 54 [.agg (T.enc t)] (.str (T.key t)):=by
 have ke:=V5 _ t (ap _) ht hr
 have htr:=T.enc_tree t
 have hb:=r7 (T.bytes t)
 have hu:YL Tryz.prog 5=true:=by kernel_rfl
 rw [T.key]
 obtain ⟨ta,tb,tc,TE,hte⟩:=aN t
 rw [hte] at ke htr ⊢
 generalize cB (T.bytes t)=C at ke hb
 generalize T.bytes t=l at hb
 refine aL bX Tryz.func54 rfl (by kernel_rfl) (by simp [Tryz.ntmps54]) (by simpa only [aP,aI,ab] using htr) (by rfl) ?_
 simp only [Tryz.ntmps54,aK,Nat.reduceAdd]
 repeat' (first|(refine cC ?_;simp only [wS,simprocAttr,hb,hu,dv])|refine aM|refine iP ?_|fail)
 refine aD rfl ?_
 simp only [wS,simprocAttr,hb,dv]
def hol:T->List Int->List AV
 |t,[]=>T.enc t
 |t,i::p=>match p with
  | []=>[.int .i64 t.kind,.int .i64 t.num,.int .i64 t.low,rv 0 (t.kids.length - 1) 4 (T.encs t.kids)]
  |_::_=>[.int .i64 t.kind,.int .i64 t.num,.int .i64 t.low,.sl false (match t.kids[i.toNat]? with
   |some e=>(T.encs t.kids).set i.toNat (hol e p)
   |none=>T.encs t.kids)]
def CQ:T->List Int->List T
 |_,[]=>[]
 |t,i::p=>match p with
  | []=>t.kids
  |_::_=>match t.kids[i.toNat]? with
   |some e=>CQ e p
   |none=>[]
theorem wW (k n m:Int) (es:List T) (i:Int):hol (.mk k n m es) [i]=[.int .i64 k,.int .i64 n,.int .i64 m,rv 0 (es.length - 1) 4 (T.encs es)]:=rfl
theorem zS {k n m:Int} {es:List T} {j:Nat} {e:T} (i2:Int) (p:List Int) (h:es[j]? =some e):hol (.mk k n m es) ((j:Int)::i2::p)=[.int .i64 k,.int .i64 n,.int .i64 m,.sl false ((T.encs es).set j (hol e (i2::p)))]:=by
 rw [hol]
 simp only [T.kids,ax,h,T.kind,T.num,T.low]
theorem sT {k n m:Int} {es:List T} {j:Nat} {e:T} (i2:Int) (p:List Int) (h:es[j]? =some e):CQ (.mk k n m es) ((j:Int)::i2::p)=CQ e (i2::p):=by
 rw [CQ]
 simp only [T.kids,ax,h]
theorem GG (t:T) (p:List Int):∃ a b c w,hol t p=[.int .i64 a,.int .i64 b,.int .i64 c,w]:=by
 obtain ⟨k,n,m,es⟩:=t
 cases p with
 |nil=>exact ⟨_,_,_,_,rfl⟩
 |cons i p=>
  cases p with
  |nil=>exact ⟨_,_,_,_,rfl⟩
  |cons i2 p=>exact ⟨_,_,_,_,rfl⟩
theorem GE {q:Nat->Bool} {L:List (List AV)} {x:List AV} (h:cQ q L=true) (hx:aP q x=true) (j:Nat):cQ q (L.set j x)=true:=by
 induction L generalizing j with
 |nil=>exact h
 |cons a L ih=>
  simp only [cQ,ae] at h
  cases j with
  |zero=>simp only [List.set_cons_zero,cQ,hx,h.2,ai]
  |succ j=>simp only [List.set_cons_succ,cQ,h.1,ih h.2 j,ai]
theorem zM {q:Nat->Bool} {L:List (List AV)} (h:cQ q L=true) (i:Nat):cQ q (L.take i)=true:=by
 induction L generalizing i with
 |nil=>simpa using h
 |cons a L ih=>
  simp only [cQ,ae] at h
  cases i with
  |zero=>rfl
  |succ i=>simp only [di,cQ,h.1,ih h.2 i,ai]
theorem GF {q:Nat->Bool} (h0:q 0=true):∀ (p:List Int) (t:T),aP q (hol t p)=true
 | [],t=>bE (T.enc_tree t)
 | [i],.mk k n m es=>by
  rw [wW]
  simp only [aP,aI,bU h0,ai]
 |i::i2::p,.mk k n m es=>by
  rw [hol]
  simp only [aP,aI,ab,ac,T.kids]
  split
  .exact GE (aB (T.encs_tree es)) (GF h0 (i2::p) _) _
  .exact aB (T.encs_tree es)
theorem YN (t:T) (p:List Int):(hol t p).length=4:=by
 obtain ⟨a,b,c,w,h⟩:=GG t p
 rw [h];rfl
theorem x7 {es:List T} {j:Nat} {x:List AV} (hx:x.length=4):∀ e∈(T.encs es).set j x,e.length=4:=fun e he=>by
 rcases List.mem_or_eq_of_mem_set he with he|rfl
 .rw [T.encs_map] at he
  obtain ⟨y,_,rfl⟩:=cf.1 he
  exact T.enc_len y
 .exact hx
set_option maxHeartbeats 8000000 in
theorem YZ:∀ (p:List Int) (i:Int) (t t':T),T.wd t->T.sub t (i::p)=some t'->∀ rows:Nat->ARow,rows 0=.none->c8 Tryz.prog G0 58 [.agg (T.enc t)] rows [0] ⟨.agg (hol t (i::p)),[(0,eX ((CQ t (i::p)).length - 1) (T.encs (CQ t (i::p))))]⟩:=by
 intro p
 induction p with
 |nil=>
  intro i t t' hsz hsub rows h0
  obtain ⟨j,k,n,m,es,e0,rfl,rfl,he0,_⟩:=T.sub_some hsub
  have hwl:es.length<=2000000000000:=hsz.1
  rw [wW]
  simp only [CQ,T.kids]
  have htr:=T.enc_tree (.mk k n m es)
  have ih2:∀ e∈es,Pure Tryz.prog G0 58 [.agg (T.enc e)] (.agg (T.enc e)):=fun e he=>lF _ e (ap _) (T.wds_mem hsz.2 e he)
  simp only [T.enc] at htr ⊢
  have hgt:=fun (i:Nat) (e:T)=>T.encs_get (es:=es) (i:=i) (e:=e)
  have hln:=T.encs_len es
  have hte:=T.encs_tree es
  have hE:=T.encs_map es
  have hpt:∀ l:List T,cQ aE (l.map T.enc)=true:=fun l=>by rw [<- T.encs_map];exact T.encs_tree l
  have hps:∀ l:List T,∀ e∈l.map T.enc,e.length=4:=fun l e he=>by
   obtain ⟨y,_,rfl⟩:=cf.1 he
   exact T.enc_len y
  have hEr:=hE
  generalize T.encs es=E at hgt hln hte htr hE ⊢
  refine bT [.none] bX Tryz.func58 rfl (by kernel_rfl) (by simp [Tryz.ntmps58]) ?_ ?_ ?_ ?_ ?_ ?_ ?_
  .intro r hr
   replace hr:=aC hr
   rcases hr with rfl
   .exact h0.symm
  .intro r hr
   match r,hr with
   |0,hr=>exact absurd (by simp) hr
   |r+1,_=>simp
  .simp only [aP,aI,af,ak,Nat.reduceAdd,Nat.reduceLT,decide_true,ac,ab,ae];exact aB (by simpa only [aP,aI,ac,ab] using htr)
  .intro r hr
   replace hr:=aC hr
   rcases hr with rfl
   .rw [h0];exact rfl
  .intro r hr h
   replace hr:=aC hr
   simp only [af,ak] at h
   omega
  .simp
  simp only [Tryz.ntmps58,aK,Nat.reduceAdd,af,ak]
  refine aF
  refine aJ (α:={i:Nat // i<=es.length}) (fun i=>[(1,.ptr 1 0 0),(2,.ptr 2 0 0),(9,.sl false E),(10,.int .i64 (E.length:Nat)),(11,.int .i64 (i.1:Nat))]) (fun i=>[eX (i.1 - 1) ((es.take i.1).map T.enc),.cells 0 [.int .i64 k,.int .i64 n,.int .i64 m,rv 0 (i.1 - 1) 4 ((es.take i.1).map T.enc)],.cells 0 [.int .i64 0,.int .i64 0,.int .i64 0,.sl true []]]) (fun i=>es.length - i.1) ⟨0,az _⟩ (cA [] (kp [0,1,2]) bX (fun r hr=>(by simp only [kp];match r,hr with|0,_=>rfl)) ?_ ?_ ?_) ?_
  .simp only [wS,simprocAttr,dL,iD,and_true,true_or]
  .simp only [bg,bz,ab,ae,aI,aB hte];exact ⟨rfl,rfl⟩
  .simp only [wS,simprocAttr,ci,bu,eI,eG]
   simp only [hY,and_true]
   exact ⟨.inr ⟨rfl,rfl,.inr ⟨.inr rfl,.inl rfl⟩⟩,.inr ⟨rfl,rfl,.inr ⟨.inl (by simp),.inr ⟨0,_,_,rfl,rfl,.inl rfl,.inl rfl,.inl rfl,.inr .toRsv,trivial⟩⟩⟩,kr rfl rfl (by simp)⟩
  .rintro ⟨i,hi⟩ K3 hK3
   try simp only at hi
   have hal:((es.take i).map T.enc).length=i:=by rw [bp,cr];omega
   by_cases hlt:i<es.length
   .have c1:decide (((i:Nat):Int)<((E.length:Nat):Int))=true:=by simp;omega
    have hltE:i<E.length:=by omega
    obtain ⟨e,he⟩:∃ e,es[i]? =some e:=⟨_,ah hlt⟩
    have hg:=hgt i e he
    have hce:=ih2 e (aj he)
    have htk:=kH (f:=T.enc) he
    have e3:=aO (k:=i) hlt (by omega)
    obtain ⟨xa,xb,xc,xd,hxe⟩:=aN e
    rw [hxe] at hg hce htk
    have hps':=hps (es.take i)
    have hvv:i=if ((es.take i).map T.enc)=[] then 0 else i - 1+1:=by
     by_cases h0:((es.take i).map T.enc)=[]
     .rw [if_pos h0];rw [h0] at hal;simpa using hal.symm
     .rw [if_neg h0]
      have:i≠0:=fun hz=>h0 (by rw [hz];rfl)
      omega
    repeat' (first|(refine cC ?_;simp only [wS,simprocAttr,hg,hltE,c1,e3,↓bM,↓aY])|refine aM|refine iP ?_|refine cL (v':=i) (es:=[[.int .i64 xa,.int .i64 xb,.int .i64 xc,.sl false xd]]) (by':=48) (by kernel_rfl) aZ hvv hps' (by simp [cW]) (by simp) (by rw [hal];simp only [am];omega) (gR ?_))
    refine hK3.go ⟨i+1,hlt⟩ aX (by simp only;omega)
    .simp only [wS,simprocAttr,↓bM,↓aY];try exact rfl
    .simp only [wS,simprocAttr,cj,htk];try exact rfl
    .intro z hz
     replace hz:=aC hz
     rcases hz with rfl|rfl|rfl|rfl|rfl<;>first|rfl|(simp only [aI];exact aB hte)
    .refine aS;try exact ⟨bA (aB (hpt _)),by simp only [aG,aP,aI,ac,ab];exact bU rfl,rfl⟩
   .have c1:decide (((i:Nat):Int)<((E.length:Nat):Int))=false:=by simp;omega
    obtain rfl:i=es.length:=by omega
    rw [bi] at hal
    repeat' (first|(refine cC ?_;simp only [wS,simprocAttr,bi,c1])|refine aH|fail)
    refine dB (v:=.agg [.int .i64 k,.int .i64 n,.int .i64 m,rv 0 (es.length - 1) 4 (es.map T.enc)]) rfl (by simp only [wS,simprocAttr,↓bM,↓aY,bi];try exact rfl) ⟨.inl (by rw [hE]),?_,fun r hr=>?_⟩
    .simp only [aI,aP,ab,ac]
     exact bU rfl
    .obtain rfl:r=0:=by simpa using hr
     simp only [wS,simprocAttr,bi,hE]
     first|exact ⟨rfl,bA (aB (hpt es))⟩|exact bA (aB (hpt es))|exact ⟨by rw [hE],by rw [hE];exact bA (aB (hpt es))⟩
 |cons i2 p ih=>
  intro i t t' hsz hsub rows h0
  obtain ⟨j,k,n,m,es,e0,rfl,rfl,he0,hs0⟩:=T.sub_some hsub
  have hwl:es.length<=2000000000000:=hsz.1
  have hjl:=(aq.1 he0).1
  have hown:=fun rows h=>ih i2 e0 t' (T.wds_mem hsz.2 e0 (aj he0)) hs0 rows h
  rw [zS i2 p he0,sT i2 p he0]
  have hRin:∀ q:Nat->Bool,aG q (eX ((CQ e0 (i2::p)).length - 1) (T.encs (CQ e0 (i2::p))))=true:=fun q=>bA (aB (T.encs_tree _))
  generalize eX ((CQ e0 (i2::p)).length - 1) (T.encs (CQ e0 (i2::p)))=R0 at hown hRin ⊢
  have hgin:∀ q:Nat->Bool,q 0=true->aP q (hol e0 (i2::p))=true:=fun q h=>GF h _ _
  have hgl:=YN e0 (i2::p)
  obtain ⟨ga,gb,gc,gw,hge⟩:=GG e0 (i2::p)
  rw [hge] at hown hgin hgl ⊢
  have htr:=T.enc_tree (.mk k n m es)
  have ih2:∀ e∈es,Pure Tryz.prog G0 58 [.agg (T.enc e)] (.agg (T.enc e)):=fun e he=>lF _ e (ap _) (T.wds_mem hsz.2 e he)
  simp only [T.enc] at htr ⊢
  have hgt:=fun (i:Nat) (e:T)=>T.encs_get (es:=es) (i:=i) (e:=e)
  have hln:=T.encs_len es
  have hte:=T.encs_tree es
  have hL4:=x7 (es:=es) (j:=j) hgl
  have hLin:∀ q:Nat->Bool,q 0=true->cQ q ((T.encs es).set j [.int .i64 ga,.int .i64 gb,.int .i64 gc,gw])=true:=fun q h=>GE (aB hte) (hgin q h) j
  have hLl:((T.encs es).set j [.int .i64 ga,.int .i64 gb,.int .i64 gc,gw]).length=es.length:=by rw [ef,hln]
  have hLj:((T.encs es).set j [.int .i64 ga,.int .i64 gb,.int .i64 gc,gw])[j]? =some [.int .i64 ga,.int .i64 gb,.int .i64 gc,gw]:=ib (by omega)
  have hLo:∀ (i:Nat) (e:T),i≠j->es[i]? =some e->((T.encs es).set j [.int .i64 ga,.int .i64 gb,.int .i64 gc,gw])[i]? =some (T.enc e):=fun i e hij he=>by rw [jd (fun h=>hij h.symm)];exact hgt i e he
  generalize (T.encs es).set j [.int .i64 ga,.int .i64 gb,.int .i64 gc,gw]=L at hL4 hLin hLl hLj hLo ⊢
  generalize T.encs es=E at hgt hln hte htr ⊢
  obtain ⟨RJ,hR1,hR2⟩:∃ f:Nat->ARow,(∀ i,i<=j->f i=.none)/\∀ i,j<i->f i=R0:=⟨fun i=>if i<=j then .none else R0,fun i h=>if_pos h,fun i h=>if_neg (by omega)⟩
  have hRJ:∀ (q:Nat->Bool) i,aG q (RJ i)=true:=fun q i=>by
   by_cases h:i<=j
   .rw [hR1 i h];rfl
   .rw [hR2 i (by omega)];exact hRin q
  have hRJ0:=hR1 0 (az _)
  refine bT [.none] bX Tryz.func58 rfl (by kernel_rfl) (by simp [Tryz.ntmps58]) ?_ ?_ ?_ ?_ ?_ ?_ ?_
  .intro r hr
   replace hr:=aC hr
   rcases hr with rfl
   .exact h0.symm
  .intro r hr
   match r,hr with
   |0,hr=>exact absurd (by simp) hr
   |r+1,_=>simp
  .simp only [aP,aI,af,ak,Nat.reduceAdd,Nat.reduceLT,decide_true,ac,ab,ae];exact aB (by simpa only [aP,aI,ac,ab] using htr)
  .intro r hr
   replace hr:=aC hr
   rcases hr with rfl
   .rw [h0];exact rfl
  .intro r hr h
   replace hr:=aC hr
   simp only [af,ak] at h
   omega
  .simp
  simp only [Tryz.ntmps58,aK,Nat.reduceAdd,af,ak]
  refine aF
  refine aJ (α:={i:Nat // i<=es.length}) (fun i=>[(1,.ptr 1 0 0),(2,.ptr 2 0 0),(9,.sl false E),(10,.int .i64 (E.length:Nat)),(11,.int .i64 (i.1:Nat))]) (fun i=>[RJ (i.1),.cells 0 [.int .i64 k,.int .i64 n,.int .i64 m,rv 3 (i.1 - 1) 4 (L.take i.1)],.cells 0 [.int .i64 0,.int .i64 0,.int .i64 0,.sl true []],eX (i.1 - 1) (L.take i.1)]) (fun i=>es.length - i.1) ⟨0,az _⟩ (cA [] (kp [0,1,2,3]) bX (fun r hr=>(by match r,hr with|0,_=>rfl)) ?_ ?_ ?_) ?_
  .simp only [wS,simprocAttr,dL,iD,and_true,true_or]
  .simp only [bg,bz,ab,ae,aI,aB hte];exact ⟨rfl,rfl⟩
  .simp only [wS,simprocAttr,ci,eI,eG,hRJ0]
   simp only [hY,and_true]
   exact ⟨.inr ⟨rfl,rfl,.inr ⟨.inr rfl,.inl rfl⟩⟩,.inr ⟨rfl,rfl,.inr ⟨.inl (by simp),.inr ⟨0,_,_,rfl,rfl,.inl rfl,.inl rfl,.inl rfl,.inr .toRsv,trivial⟩⟩⟩,kr rfl rfl (by simp)⟩
  .rintro ⟨i,hi⟩ K3 hK3
   try simp only at hi
   have hal:(L.take i).length=i:=by rw [cr];omega
   by_cases hlt:i<es.length
   .have c1:decide (((i:Nat):Int)<((E.length:Nat):Int))=true:=by simp;omega
    have hltE:i<E.length:=by omega
    obtain ⟨e,he⟩:∃ e,es[i]? =some e:=⟨_,ah hlt⟩
    have hg:=hgt i e he
    have e3:=aO (k:=i) hlt (by omega)
    have hps':∀ e∈L.take i,e.length=4:=fun e he=>hL4 e (fx he)
    have hvv:i=if L.take i=[] then 0 else i - 1+1:=by
     by_cases h0:L.take i=[]
     .rw [if_pos h0];rw [h0] at hal;simpa using hal.symm
     .rw [if_neg h0]
      have:i≠0:=fun hz=>h0 (by rw [hz];rfl)
      omega
    by_cases hij:i=j
    .subst hij
     obtain rfl:e0=e:=by rw [he0] at he;cases he;rfl
     have hRi:=hR1 i (ap _)
     have hRn:=hR2 (i+1) (by omega)
     have htk:L.take (i+1)=L.take i++[[.int .i64 ga,.int .i64 gb,.int .i64 gc,gw]]:=by rw [dh,hLj];rfl
     obtain ⟨xa,xb,xc,xd,hxe⟩:=aN e0
     rw [hxe] at hg hown
     repeat' (first|(refine cC ?_;simp only [wS,simprocAttr,hg,hltE,c1,e3,↓bM,↓aY])|refine aM|refine cM (hown _ (by refine aA;exact hRi)) (gR ?_)|refine cL (v':=i) (es:=[[.int .i64 ga,.int .i64 gb,.int .i64 gc,gw]]) (by':=48) (by kernel_rfl) aZ hvv hps' (by simp [cW]) (by simp) (by rw [hal];simp only [am];omega) (gR ?_))
     refine hK3.go ⟨i+1,hlt⟩ aX (by simp only;omega)
     .simp only [wS,simprocAttr,↓bM,↓aY];try exact rfl
     .simp only [wS,simprocAttr,cj,htk,hRn];try exact rfl
     .intro z hz
      replace hz:=aC hz
      rcases hz with rfl|rfl|rfl|rfl|rfl<;>first|rfl|(simp only [aI];exact aB hte)
     .refine aS;try exact ⟨hRJ _ _,by simp only [aG,aP,aI,ac,ab];exact bU rfl,rfl,bA (zM (hLin _ rfl) _)⟩
    .have hRn:RJ (i+1)=RJ i:=by
      by_cases h:i<j
      .rw [hR1 _ (by omega),hR1 _ (by omega)]
      .rw [hR2 _ (by omega),hR2 _ (by omega)]
     have hLi:=hLo i e hij he
     have hce:=ih2 e (aj he)
     obtain ⟨xa,xb,xc,xd,hxe⟩:=aN e
     rw [hxe] at hg hce hLi
     have htk:L.take (i+1)=L.take i++[[.int .i64 xa,.int .i64 xb,.int .i64 xc,.sl false xd]]:=by rw [dh,hLi];rfl
     repeat' (first|(refine cC ?_;simp only [wS,simprocAttr,hg,hltE,c1,e3,↓bM,↓aY])|refine aM|refine iP ?_|refine cL (v':=i) (es:=[[.int .i64 xa,.int .i64 xb,.int .i64 xc,.sl false xd]]) (by':=48) (by kernel_rfl) aZ hvv hps' (by simp [cW]) (by simp) (by rw [hal];simp only [am];omega) (gR ?_))
     refine hK3.go ⟨i+1,hlt⟩ aX (by simp only;omega)
     .simp only [wS,simprocAttr,↓bM,↓aY];try exact rfl
     .simp only [wS,simprocAttr,cj,htk,hRn];try exact rfl
     .intro z hz
      replace hz:=aC hz
      rcases hz with rfl|rfl|rfl|rfl|rfl<;>first|rfl|(simp only [aI];exact aB hte)
     .refine aS;try exact ⟨hRJ _ _,by simp only [aG,aP,aI,ac,ab];exact bU rfl,rfl,bA (zM (hLin _ rfl) _)⟩
   .have c1:decide (((i:Nat):Int)<((E.length:Nat):Int))=false:=by simp;omega
    obtain rfl:i=es.length:=by omega
    have hta:L.take es.length=L:=bx (by omega)
    have hRn:=hR2 es.length hjl
    rw [hta,hRn]
    refine cP c1
    refine Cont.go (by assumption) ?_
    refine cP c1
    refine Cont.go (by assumption) (cK (cA [] (kp [0,1,2,3]) (l:=[(1,.ptr 1 0 0),(2,.ptr 2 0 0)]) (h:=[R0,.cells 0 [.int .i64 k,.int .i64 n,.int .i64 m,rv 3 (es.length - 1) 4 L],.cells 0 [.int .i64 0,.int .i64 0,.int .i64 0,.sl true []],eX (es.length - 1) L]) bX (fun r hr=>(by match r,hr with|0,_=>rfl)) ?_ ?_ ?_) (cK (TH (s':=⟨eJ [(1,.ptr 1 0 0),(2,.ptr 2 0 0)],[R0,.cells 0 [.int .i64 k,.int .i64 n,.int .i64 m,.sl false L],.cells 0 [.int .i64 0,.int .i64 0,.int .i64 0,.sl true []],.dead]⟩) (r:=3) (b:=1) (L:=L) (pre:=[.int .i64 k,.int .i64 n,.int .i64 m]) (post:=[]) (m:=es.length) (sz:=4) (ver:=es.length - 1) (vb:=0) (bb:=false) ?_ ?_ hLl hL4 (by decide) rfl ?_) ?_))
    .simp only [wS,simprocAttr,dL,iD,and_true,true_or]
    .rfl
    .refine aA
     simp only [hY,and_true]
     exact ⟨kr rfl (hRin _) (by simp),kr rfl (by simp only [aG,aP,aI,ac,ab];exact bU rfl) (by simp),kr rfl rfl (by simp),kr rfl (bA (hLin _ rfl)) (by simp)⟩
    .show ARow.cells 0 [.int .i64 k,.int .i64 n,.int .i64 m,rv 3 (es.length - 1) 4 L]=_
     rw [rv,if_neg (fun e=>by rw [e] at hLl;simp at hLl;omega),hLl];rfl
    .show eX (es.length - 1) L=_
     rw [eX,if_neg (fun e=>by rw [e] at hLl;simp at hLl;omega)]
    .intro q
     match q with
     |0=>rfl
     |1=>rfl
     |2=>rfl
     |3=>rfl
     |q+4=>simp only [Nat.reduceEqDiff,if_false];rfl
    refine aF
    refine dB (v:=.agg [.int .i64 k,.int .i64 n,.int .i64 m,.sl false L]) rfl aZ ⟨.inl rfl,?_,fun r hr=>?_⟩
    .simp only [aI,aP,ab,ac]
     exact hLin _ rfl
    .obtain rfl:r=0:=by simpa using hr
     refine aA
     first|exact ⟨rfl,hRin _⟩|exact hRin _
def YC:List Int->Nat
 | []=>0
 |i::p=>match p with
  | []=>i.toNat
  |_::_=>YC p
theorem D9 {rows:Nat->ARow} {fp:List Nat} {a b:List AV} (h:LendL rows fp a b):∀ {A:List (List AV)} (j:Nat),cQ aE A=true->LendE rows fp (A.set j a) (A.set j b)
 | [],_,_=>.nil
 |e::A,0,hA=>by
  simp only [cQ,ae] at hA
  have:∀ {A:List (List AV)},cQ aE A=true->LendE rows fp A A:=fun {A}=>by
   induction A with
   |nil=>exact fun _=>.nil
   |cons x A ih=>
    intro hx
    simp only [cQ,ae] at hx
    exact .cons (k8 hx.1) (ih hx.2)
  exact .cons h (this hA.2)
 |e::A,j+1,hA=>by
  simp only [cQ,ae] at hA
  exact .cons (k8 hA.1) (D9 h j hA.2)
theorem DO {rows:Nat->ARow} {fp:List Nat}:∀ {a b:List AV},LendL rows fp a b->sE rows fp a b
 |_,_,.nil=>trivial
 |_,_,.cons h hs=>⟨.inr h,DO hs⟩
theorem KG (es:List T) (j:Nat) (u:T):T.encs (es.set j u)=(T.encs es).set j (T.enc u):=by rw [T.encs_map,T.encs_map,List.map_set]
theorem TA {r v sz n:Nat} {L:List (List AV)} (h:L.length=n) (hn:0<n):rv r v sz L=.osl r v 0 n sz false:=by
 rw [rv,if_neg (fun e=>by rw [e] at h;simp at h;omega),h]
theorem JS {rows:Nat->ARow} {x:T}:∀ (p:List Int) (i:Int) (t t':T),T.sub t (i::p)=some t'->rows 0=.cells ((CQ t (i::p)).length - 1) ((T.encs (CQ t (i::p))).set (YC (i::p)) (T.enc x)).flatten->LendL rows [0] (hol t (i::p)) (T.enc (T.set t (i::p) x))
 | [],i,t,t',hsub,h0=>by
  obtain ⟨j,k,n,m,es,e,rfl,rfl,he,_⟩:=T.sub_some hsub
  have hlt:=(aq.1 he).1
  simp only [CQ,T.kids,YC,ax] at h0
  rw [wW,T.set_cons [] x he,T.set,T.enc,KG,TA (T.encs_len es) (by omega)]
  refine .cons (.same rfl) (.cons (.same rfl) (.cons (.same rfl) (.cons (.osl (cs:=((T.encs es).set j (T.enc x)).flatten) (by simp) (by simp [aU,h0]) (by rw [ef,T.encs_len]) (x7 (T.enc_len x)) ?_ (GE (T.encs_tree es) (T.enc_tree x) j)) .nil)))
  rw [co,bx]
  rw [dE (x7 (T.enc_len x)),ef,T.encs_len];exact ap _
 |i2::p,i,t,t',hsub,h0=>by
  obtain ⟨j,k,n,m,es,e,rfl,rfl,he,hs⟩:=T.sub_some hsub
  rw [sT i2 p he] at h0
  rw [zS i2 p he,T.set_cons (i2::p) x he,T.enc,KG]
  exact .cons (.same rfl) (.cons (.same rfl) (.cons (.same rfl) (.cons (.sle (D9 (JS p i2 e t' hs h0) j (T.encs_tree es))) .nil)))
theorem TT:∀ (p:List Int) (i:Int) (t t':T),T.wd t->T.sub t (i::p)=some t'->YC (i::p)<(CQ t (i::p)).length/\(CQ t (i::p)).length<=2000000000000
 | [],i,t,t',hwd,hsub=>by
  obtain ⟨j,k,n,m,es,e,rfl,rfl,he,_⟩:=T.sub_some hsub
  have hlt:=(aq.1 he).1
  have:=hwd.1
  simp only [CQ,T.kids,YC,ax]
  omega
 |i2::p,i,t,t',hwd,hsub=>by
  obtain ⟨j,k,n,m,es,e,rfl,rfl,he,hs⟩:=T.sub_some hsub
  have h:=TT p i2 e t' (T.wds_mem hwd.2 e (aj he)) hs
  rw [sT i2 p he]
  exact h
theorem QI (t x:T) (ht:T.wd t) (hx:T.wd x):Pure Tryz.prog G0 26 [.agg (T.enc t),.sl false (aT []),.agg (T.enc x)] (.tup [.agg (T.enc x),.int .i64 0]):=by
 have ka:=W0 t [] (by simp) ht
 have kc:=lF _ t (ap _) ht
 have kx:=lF _ x (ap _) hx
 have htr:=T.enc_tree t
 have hxr:=T.enc_tree x
 have hxw:=T.wk_enc x
 simp only [T.sub,gG,aT,bu] at ka ⊢
 obtain ⟨ta,tb,tc,td,hte⟩:=aN t
 obtain ⟨xa,xb,xc,xd,hxe⟩:=aN x
 rw [hte] at ka kc htr ⊢
 rw [hxe] at kx hxr hxw ⊢
 refine bH bX Tryz.func26 rfl (by kernel_rfl) (by simp [Tryz.ntmps26]) (by simp only [aP,aI,cQ,ac,ab,ae] at htr hxr ⊢;exact ⟨htr,hxr⟩) (by simp only [aI,aP,ac,ab] at hxr ⊢;exact hxr) ?_
 simp only [Tryz.ntmps26,aK,Nat.reduceAdd]
 repeat' (first|(refine cC ?_;simp only [wS,simprocAttr,ak,bf])|refine aM|(refine bO bX (ka) ?_;simp only [wS,simprocAttr,bf])|(refine bO bX (kc) ?_;simp only [wS,simprocAttr,bf]))
 refine aJ (α:=Unit) (fun _=>[(5,.ptr 1 0 0),(6,.ptr 2 0 0),(10,.ptr 4 0 0),(11,.ptr 4 0 0),(26,.int .i64 0),(27,.int .i64 0)]) (fun _=>[.cells 0 [.int .i64 ta,.int .i64 tb,.int .i64 tc,.sl false td],.cells 0 [.int .i64 xa,.int .i64 xb,.int .i64 xc,.sl false xd],.cells 0 [.int .i64 0,.int .i64 0,.int .i64 0,.sl true []],.cells 0 [.int .i64 ta,.int .i64 tb,.int .i64 tc,.sl false td],.cells 0 [.int .i64 ta,.int .i64 tb,.int .i64 tc,.sl false td]]) (fun _=>0) () (Weak.ref ⟨?_,.inl ?_⟩) ?_
 .exact aZ
 .exact aZ
 .rintro _ K hK
  refine gU
  refine bK (v:=.agg [.int .i64 xa,.int .i64 xb,.int .i64 xc,.sl false xd]) rfl ?_ ?_
  .refine aA
  .refine aA
   rw [AM.wk,wkL,AM.wk,hxw,wkL,AM.wk,wkL]
set_option maxHeartbeats 8000000 in
theorem aAb (t x t':T) (p:List Int) (hp:p.length<=2000000000000) (ht:T.wd t) (hx:T.wd x) (hsub:T.sub t p=some t'):Pure Tryz.prog G0 26 [.agg (T.enc t),.sl false (aT p),.agg (T.enc x)] (.tup [.agg (T.enc (T.set t p x)),.int .i64 0]):=by
 by_cases hpe:p=[]
 .subst hpe
  rw [T.set]
  exact QI t x ht hx
 obtain ⟨i0,p0,hp0⟩:∃ i q,p=i::q:=by
  cases p with
  |nil=>exact absurd rfl hpe
  |cons i q=>exact ⟨i,q,rfl⟩
 have ka:=W0 t p hp ht
 have kc:=fun rows h=>YZ p0 i0 t t' ht (by rw [<- hp0];exact hsub) rows h
 have kx:=lF _ x (ap _) hx
 have htr:=T.enc_tree t
 have htr':=T.enc_tree t'
 have hxr:=T.enc_tree x
 have hxl:=T.enc_len x
 have hhx:∀ q:Nat->Bool,q 0=true->aP q (hol t p)=true:=fun q h=>GF h p t
 have hout:=fun rows h=>JS (rows:=rows) (x:=x) p0 i0 t t' (by rw [<- hp0];exact hsub) h
 have hpn:=TT p0 i0 t t' ht (by rw [<- hp0];exact hsub)
 rw [<- hp0] at kc hout hpn
 obtain ⟨Rt,hRt⟩:∃ u,u=T.set t p x:=⟨_,rfl⟩
 rw [<- hRt] at hout ⊢
 have hrr:=T.enc_tree Rt
 have hrw:=T.wk_enc Rt
 obtain ⟨W,hW⟩:∃ w,w=CQ t p:=⟨_,rfl⟩
 obtain ⟨jl,hjl⟩:∃ j,j=YC p:=⟨_,rfl⟩
 have hWl:=T.encs_len W
 have hWt:=T.encs_tree W
 have hfs:=fun (i:Nat) (hi:i<(T.encs W).length)=>zY (L:=T.encs W) (fun e he=>by
  rw [T.encs_map] at he
  obtain ⟨y,_,rfl⟩:=cf.1 he
  exact T.enc_len y) hi hxl
 have hWf:(T.encs W).flatten.length=W.length*4:=by rw [dE (fun e he=>by
  rw [T.encs_map] at he
  obtain ⟨y,_,rfl⟩:=cf.1 he
  exact T.enc_len y),hWl]
 rw [<- hW,<- hjl] at hout hpn
 rw [<- hW] at kc
 have hrvR:eX (W.length - 1) (T.encs W)=.cells (W.length - 1) (T.encs W).flatten:=by
  rw [eX,if_neg (fun e=>by rw [e] at hWl;simp at hWl;omega)]
 rw [hrvR] at kc
 have hjlW:jl<(T.encs W).length:=by omega
 have hfs':=hfs jl hjlW
 have hpr:cQ aE (aT p)=true:=bD p
 have hpl:(aT p).length=p.length:=by simp [aT]
 have hpg:∀ (i:Nat) (x:Int),p[i]? =some x->(aT p)[i]? =some [.int .i64 x]:=fun i x h=>by simp [aT,h]
 rw [hsub,gG] at ka
 have hst:T.sub t (p.drop 0)=some t':=hsub
 obtain ⟨ha,hb,hc,hw,hhe⟩:=GG t p
 obtain ⟨ta,tb,tc,td,hte⟩:=aN t
 obtain ⟨ta',tb',tc',td',hte'⟩:=aN t'
 obtain ⟨xa,xb,xc,xd,hxe⟩:=aN x
 obtain ⟨ra,rb,rc,rd,hre⟩:=aN Rt
 rw [hte] at ka kc htr ⊢
 rw [hte'] at ka htr'
 rw [hxe] at kx hxr hfs' hout ⊢
 rw [hre] at hrr hrw hout ⊢
 rw [hhe] at kc hhx hout
 generalize hIP:aT p=ip at ka hpr hpl hpg ⊢
 refine bH bX Tryz.func26 rfl (by kernel_rfl) (by simp [Tryz.ntmps26]) (by simp only [aP,aI,hpr,ac,ab,ae] at htr hxr ⊢;exact ⟨htr,hxr⟩) (by simp only [aI,aP,ac,ab] at hrr ⊢;exact hrr) ?_
 simp only [Tryz.ntmps26,aK,Nat.reduceAdd]
 refine cK (cA [] (kp [0]) (l:=[(0,.agg [.int .i64 ta,.int .i64 tb,.int .i64 tc,.sl false td]),(1,.sl false ip),(2,.agg [.int .i64 xa,.int .i64 xb,.int .i64 xc,.sl false xd])]) (h:=[.none]) bX (fun r hr=>absurd hr (bm r)) ?_ ?_ ?_) ?_
 .simp only [wS,simprocAttr,dL,iD,and_true,true_or]
 .simp only [aP,aI,ac,ab] at htr hxr
  simp only [bg,bz,ab,aP,aI,ac,aB htr,aB hxr,aB hpr,ai]
 .refine aA
  simp only [hY,and_true]
 repeat' (first|(refine cC ?_;simp only [wS,simprocAttr,bf])|refine aM|refine iP ?_|refine cM (kc _ aZ) (gR ?_))
 clear ka kc htr htr' hrvR hfs
 refine aJ (α:={y:Nat × T // y.1<=p.length/\T.sub y.2 (p.drop y.1)=some t'/\(y.1=0->y.2=t)/\(y.1<p.length->CQ y.2 (p.drop y.1)=W/\YC (p.drop y.1)=jl)}) (fun y=>[(5,.ptr 2 0 0),(6,.ptr 3 0 0),(10,.ptr 5 0 0),(11,if y.1.1=0 then .ptr 5 0 0 else if y.1.1<p.length then .imm (hol y.1.2 (p.drop y.1.1)) else .ptr 0 (W.length - 1) (jl*4)),(25,.sl false ip),(26,.int .i64 (ip.length:Nat)),(27,.int .i64 (y.1.1:Nat))]) (fun _=>[.cells (W.length - 1) (T.encs W).flatten,.none,.cells 0 [.int .i64 xa,.int .i64 xb,.int .i64 xc,.sl false xd],.cells 0 [.int .i64 0,.int .i64 0,.int .i64 0,.sl true []],.none,.cells 0 [.int .i64 ha,.int .i64 hb,.int .i64 hc,hw]]) (fun y=>p.length - y.1.1) ⟨(0,t),az _,hst,fun _=>rfl,fun _=>⟨hW.symm,hjl.symm⟩⟩ (cA [] (kp [0,2,3,5]) bX (fun r hr=>absurd hr (bm r)) ?_ ?_ ?_) ?_
 .simp only [wS,simprocAttr,dL,iD,and_true,true_or,if_true]
 .simp only [bg,bz,ab,aI,aB hpr,if_true,ac];rfl
 .refine aA
  simp only [hY,and_true]
  exact ⟨kr rfl (dK (aB hWt)) (by simp),.inl rfl,kr rfl (bE hxr) (by simp),kr rfl rfl (by simp),.inl rfl,kr rfl (hhx _ rfl) (by simp)⟩
 .rintro ⟨⟨i,y⟩,hi,hs,hy0,hyW⟩ K hK
  simp only at hi hs hy0 hyW
  by_cases hlt:i<p.length
  .have c1:decide (((i:Nat):Int)<((ip.length:Nat):Int))=true:=by simp;omega
   have hA:i<ip.length:=by omega
   obtain ⟨q,hq⟩:∃ q,p[i]? =some q:=⟨_,ah hlt⟩
   have hg:=hpg i q hq
   have e3:=aO (k:=i) hlt (by omega)
   have hd:p.drop i=q::p.drop (i+1):=by
    obtain ⟨q1,q2⟩:=aq.1 hq
    rw [cg q1,q2]
   obtain ⟨hy1,hy2⟩:=hyW hlt
   rw [hd] at hs hy1 hy2
   obtain ⟨j,k,n,m,es,e,rfl,rfl,he,hse⟩:=T.sub_some hs
   have hjes:=(aq.1 he).1
   have hjn:=T.encs_len es
   have hi1:¬ i+1=0:=by omega
   by_cases hl1:i+1<p.length
   .obtain ⟨i2,r2,hr2⟩:∃ a b,p.drop (i+1)=a::b:=⟨_,_,cg hl1⟩
    rw [hr2] at hy1 hy2
    have hho:=zS (k:=k) (n:=n) (m:=m) i2 r2 he
    rw [<- hr2,<- hd] at hho
    have gL:((T.encs es).set j (hol e (i2::r2)))[j]? =some (hol e (i2::r2)):=ib (by omega)
    have hLl:j<((T.encs es).set j (hol e (i2::r2))).length:=by rw [ef];omega
    have hLin:=GF (q:=fun r=>decide (r<6)) rfl (i2::r2) e
    rw [sT i2 r2 he] at hy1
    rw [<- hr2] at gL hLl hy1 hLin
    have hn2:YC (p.drop (i+1))=jl:=by rw [hr2];exact hy2
    obtain ⟨ga,gb,gc,gw,hge⟩:=GG e (p.drop (i+1))
    rw [hge] at gL hLl hho hLin
    generalize (T.encs es).set j [.int .i64 ga,.int .i64 gb,.int .i64 gc,gw]=L at gL hLl hho
    by_cases hi0:i=0
    .obtain rfl:=hy0 hi0
     rw [hi0,co] at hho
     rw [hho] at hhe
     simp only [de,AV.int.injEq,and_true,true_and] at hhe
     obtain ⟨rfl,rfl,rfl,rfl⟩:=hhe
     simp only [if_pos hi0]
     repeat' (first|(refine cC ?_;simp only [wS,simprocAttr,hg,hA,c1,e3,gL,hLl,if_true,if_false])|refine aM|fail)
     refine hK.go ⟨(i+1,e),hlt,hse,fun h=>absurd h hi1,fun _=>⟨hy1,hn2⟩⟩ aX (by simp only;omega)
     .simp only [wS,simprocAttr,if_neg hi1,if_pos hl1,hge];try exact rfl
     .exact aZ
     .intro z hz
      replace hz:=aC hz
      rcases hz with rfl|rfl|rfl|rfl|rfl|rfl|rfl<;>first|rfl|(simp only [if_neg hi1,if_pos hl1,hge,aI];first|rfl|exact aB hpr|exact hLin|(simp only [aI];rfl))
     .refine aS;try exact ⟨dK (aB hWt),rfl,bE hxr,rfl,rfl,hhx _ rfl⟩
    .simp only [if_neg hi0,if_pos hlt,hho]
     repeat' (first|(refine cC ?_;simp only [wS,simprocAttr,hg,hA,c1,e3,gL,hLl,if_true,if_false])|refine aM|fail)
     refine hK.go ⟨(i+1,e),hlt,hse,fun h=>absurd h hi1,fun _=>⟨hy1,hn2⟩⟩ aX (by simp only;omega)
     .simp only [wS,simprocAttr,if_neg hi1,if_pos hl1,hge];try exact rfl
     .exact aZ
     .intro z hz
      replace hz:=aC hz
      rcases hz with rfl|rfl|rfl|rfl|rfl|rfl|rfl<;>first|rfl|(simp only [if_neg hi1,if_pos hl1,hge,aI];first|rfl|exact aB hpr|exact hLin|(simp only [aI];rfl))
     .refine aS;try exact ⟨dK (aB hWt),rfl,bE hxr,rfl,rfl,hhx _ rfl⟩
   .have hlen:p.length=i+1:=by omega
    have hdn:p.drop (i+1)=[]:=dz (by omega)
    rw [hdn] at hy1 hy2
    simp only [CQ,T.kids,YC,ax] at hy1 hy2
    subst hy1 hy2
    have hho1:=wW k n m es (j:Int)
    rw [TA hWl (by omega)] at hho1
    have hho:hol (.mk k n m es) (p.drop i)=_:=(by rw [hd,hdn]:hol (.mk k n m es) (p.drop i)=hol (.mk k n m es) [(j:Int)]).trans hho1
    by_cases hi0:i=0
    .obtain rfl:=hy0 hi0
     rw [hi0,co] at hho
     rw [hho] at hhe
     simp only [de,AV.int.injEq,and_true,true_and] at hhe
     obtain ⟨rfl,rfl,rfl,rfl⟩:=hhe
     simp only [if_pos hi0]
     repeat' (first|(refine cC ?_;simp only [wS,simprocAttr,hg,hA,c1,e3,hjlW,hWl,hjes,if_true,if_false])|refine aM|fail)
     refine hK.go ⟨(i+1,e),hlt,hse,fun h=>absurd h hi1,fun h=>absurd h hl1⟩ aX (by simp only;omega)
     .simp only [wS,simprocAttr,if_neg hi1,if_neg hl1];try exact rfl
     .exact aZ
     .intro z hz
      replace hz:=aC hz
      rcases hz with rfl|rfl|rfl|rfl|rfl|rfl|rfl<;>first|rfl|(simp only [if_neg hi1,if_neg hl1,aI];first|rfl|exact aB hpr|exact hLin|(simp only [aI];rfl))
     .refine aS;try exact ⟨dK (aB hWt),rfl,bE hxr,rfl,rfl,hhx _ rfl⟩
    .simp only [if_neg hi0,if_pos hlt,hho]
     repeat' (first|(refine cC ?_;simp only [wS,simprocAttr,hg,hA,c1,e3,hjlW,hWl,hjes,if_true,if_false])|refine aM|fail)
     refine hK.go ⟨(i+1,e),hlt,hse,fun h=>absurd h hi1,fun h=>absurd h hl1⟩ aX (by simp only;omega)
     .simp only [wS,simprocAttr,if_neg hi1,if_neg hl1];try exact rfl
     .exact aZ
     .intro z hz
      replace hz:=aC hz
      rcases hz with rfl|rfl|rfl|rfl|rfl|rfl|rfl<;>first|rfl|(simp only [if_neg hi1,if_neg hl1,aI];first|rfl|exact aB hpr|exact hLin|(simp only [aI];rfl))
     .refine aS;try exact ⟨dK (aB hWt),rfl,bE hxr,rfl,rfl,hhx _ rfl⟩
  .have c1:decide (((i:Nat):Int)<((ip.length:Nat):Int))=false:=by simp;omega
   have hi0:¬ i=0:=fun h=>hpe (cu (by omega))
   simp only [if_neg hi0,if_neg hlt]
   have hb1:jl*4+4<=W.length*4:=by omega
   have hb2:jl*4+4<=(T.encs W).flatten.length:=by omega
   refine aR c1
   refine bO bX kx ?_
   refine aA
   refine ⟨fun _=>?_,fun h=>absurd hb2 h⟩
   rw [hfs']
   refine Cont.go (by assumption) ?_
   refine gB
   refine Cont.go (by assumption) (cK (cA [0] (kp [3]) (l:=[(6,.ptr 3 0 0),(7,.int .i64 0)]) (h:=[.none,.none,.none,.cells 0 [.int .i64 ra,.int .i64 rb,.int .i64 rc,.sl false rd]]) bX (fun r hr=>absurd hr (bm r)) ?_ ?_ ?_) ?_)
   .simp only [wS,simprocAttr,dL,iD,and_true,true_or]
   .rfl
   .refine aA
    simp only [hY,and_true]
    exact ⟨.inl rfl,.inl rfl,.inl rfl,.inr ⟨rfl,bE hrr,.inr ⟨.inl (by simp),.inr ⟨0,_,_,rfl,rfl,DO (hout _ aZ)⟩⟩⟩,rfl,rfl⟩
   refine aF
   refine bK (v:=.agg [.int .i64 ra,.int .i64 rb,.int .i64 rc,.sl false rd]) rfl ?_ ?_
   .refine aA
   .refine aA
    rw [AM.wk,wkL,AM.wk,hrw,wkL,AM.wk,wkL]
def W1 (O:List hI) (s:Int):Option hI:=if 0<=s then O[s.toNat]? else none
def fK (c:T) (O:List hI) (s:Si):Option T:=match T.sub c s.1 with
 |none=>none
 |some n=>match W1 O s.2 with
  |none=>none
  |some o=>if O.length<=24 then uC o n else none
def g9 (c:T) (O:List hI):T->List Si->Option T
 |out,[]=>some out
 |out,s::M=>match fK c O s with
  |none=>none
  |some x=>g9 c O (T.set out s.1 x) M
def ZA:List AV:=[.int .i64 0,.int .i64 0,.int .i64 0,.sl false []]
def TG:Option T->AV
 |some u=>.tup [.agg (T.enc u),.int .i64 0]
 |none=>.tup [.agg ZA,.int .i64 6]
def rC (c:T) (O:List hI) (M:List Si):AV:=if c6 M=true then TG (g9 c O c M) else .tup [.agg ZA,.int .i64 1]
theorem CL (r:Option T):aI aE (TG r)=true:=by
 cases r with
 |none=>rfl
 |some u=>simp only [TG,aI,aP,T.enc_tree,ai]
theorem T.sub_size:∀ {p:List Int} {t t':T},T.sub t p=some t'->T.size t'<=T.size t
 | [],t,t',h=>by rw [T.sub] at h;cases h;exact ap _
 |i::p,t,t',h=>by
  obtain ⟨j,k,n,m,es,e,rfl,rfl,he,hs⟩:=T.sub_some h
  have h1:=T.sub_size hs
  have:=T.size_mem (aj he)
  simp only [T.size];omega
theorem RF {B:Nat} (hB:1<=B) {nm:ByteArray} {f p:T} {b:Int} {t x:T} (ht:T.size t<=B) (h:T.app nm f p b t=some x):T.size x<=32*B:=by
 have hg:=T.mat_good f t true [] ht (fun y hy=>(by cases hy))
 unfold T.app at h
 split at h
 .rename_i hv
  have h32:=lP hv
  split at h
  .rename_i mp hm
   rw [hm] at hg
   have hps:T.size (T.put mp t.num p)<=T.size p*B:=T.put_size hg hB _ _
   have:=Nat.mul_le_mul_right B h32
   rw [H4] at h
   split at h
   .cases h
   .cases h;omega
  .cases h
 .cases h
theorem T.wds_set:∀ {es:List T} {j:Nat} {u:T},T.wds es->T.wd u->T.wds (es.set j u)
 | [],_,_,_,_=>trivial
 |x::es,0,u,h,hu=>⟨hu,h.2⟩
 |x::es,j+1,u,h,hu=>⟨h.1,T.wds_set h.2 hu⟩
theorem T.set_wd:∀ (p:List Int) {t x:T},T.wd t->T.wd x->T.wd (T.set t p x)
 | [],_,_,_,hx=>by rw [T.set];exact hx
 |i::p,.mk k n m es,x,ht,hx=>by
  rw [T.set]
  split
  .simp only [T.kids,T.kind,T.num,T.low]
   split
   .rename_i e he
    exact ⟨by rw [ef];exact ht.1,T.wds_set ht.2 (T.set_wd p (T.wds_mem ht.2 e (aj he)) hx)⟩
   .exact ht
  .exact ht
theorem OX:∀ {mp:MP},(∀ x∈mp,T.wd x.2)->∀ n,T.wd ((dG mp n).getD T.zero)
 | [],_,n=>T.wd_of (by simp [dG,T.zero,T.size,T.sizes])
 |x::mp,h,n=>by
  rw [dG]
  split
  .exact h x (by simp)
  .exact OX (fun y hy=>h y (by simp [hy])) n
mutual
theorem TL {mp:MP} (h:∀ x∈mp,T.wd x.2) (nn:Int):∀ t:T,T.wd t->T.wd (T.put mp nn t)
 | .mk k n m ps,ht=>by
  rw [T.put]
  split
  .exact OX h n
  .exact ⟨by rw [T.puts_map,bp];exact ht.1,OJ h nn ps ht.2⟩
theorem OJ {mp:MP} (h:∀ x∈mp,T.wd x.2) (nn:Int):∀ ts:List T,T.wds ts->T.wds (T.puts mp nn ts)
 | [],_=>trivial
 |t::ts,ht=>⟨TL h nn t ht.1,OJ h nn ts ht.2⟩
end
theorem W4 {nm:ByteArray} {f p:T} {b:Int} {t x:T} (ht:T.size t<=1000000000000) (h:T.app nm f p b t=some x):T.wd x:=by
 have hg:=T.mat_good f t true [] ht (fun y hy=>(by cases hy))
 unfold T.app at h
 split at h
 .rename_i hv
  have h32:=lP hv
  split at h
  .rename_i mp hm
   rw [hm] at hg
   rw [H4] at h
   split at h
   .cases h
   .cases h
    exact TL (fun y hy=>T.wd_of (by have:=hg y hy;omega)) _ _ (T.wd_of (by omega))
  .cases h
 .cases h
theorem uI {c:T} {O:List hI} {s:Si} {x:T} (h:fK c O s=some x):∃ n o,T.sub c s.1=some n/\W1 O s.2=some o/\O.length<=24/\uC o n=some x:=by
 unfold fK at h
 split at h
 .cases h
 .rename_i n hn
  split at h
  .cases h
  .rename_i o ho
   split at h
   .rename_i hl
    exact ⟨n,o,hn,ho,hl,h⟩
   .cases h
theorem L4 {O:List hI} {s:Int} {o:hI} (h:W1 O s=some o):∃ j:Nat,s=j/\O[j]? =some o:=by
 unfold W1 at h
 split at h
 .exact ⟨s.toNat,by omega,h⟩
 .cases h
theorem L5 {O:List hI} {s:Int} (h:W1 O s=none):s<0\/(O.length:Int)<=s:=by
 unfold W1 at h
 split at h
 .have:=List.getElem?_eq_none_iff.1 h
  omega
 .omega
def OpB (o:hI):Prop:=T.size o.2.1<=100000000000/\T.size o.2.2.1<=100000000000
set_option maxHeartbeats 8000000 in
theorem JE (c:T) (hc:T.size c<=1000000000000) (O:List hI) (hO:∀ o∈O,OpB o) (s:Si) (hp:s.1.length<=2000000000000):Pure Tryz.prog G0 41 [.agg (T.enc c),.sl false (O.map eE),.agg [.sl false (aT s.1),.int .i64 s.2]] (gG (fK c O s)):=by
 have ka:=aBh c s.1 hp (by omega)
 obtain ⟨p,s⟩:=s
 obtain ⟨res,hres⟩:∃ r,r=fK c O (p,s):=⟨_,rfl⟩
 rw [<- hres]
 have hrt:=mZ res
 have htr:=T.enc_tree c
 have hOt:=dH O
 have hOl:(O.map eE).length=O.length:=bp _
 have hOg:∀ (j:Nat) (o:hI),O[j]? =some o->(O.map eE)[j]? =some (eE o):=fun j o h=>by rw [bh,h];rfl
 have hpr:cQ aE (aT p)=true:=bD p
 unfold fK at hres
 simp only at hres ka hp
 generalize aT p=ip at ka hpr ⊢
 generalize O.map eE=OL at hOt hOl hOg ⊢
 obtain ⟨ca,cb,cc,cd,hce⟩:=aN c
 rw [hce] at ka htr ⊢
 refine bH bX Tryz.func41 rfl (by kernel_rfl) (by simp [Tryz.ntmps41]) (by simp only [aP,aI,hOt,hpr,ac,ab] at htr ⊢;exact htr) (by exact hrt) ?_
 simp only [Tryz.ntmps41,aK,Nat.reduceAdd]
 cases hs:T.sub c p with
 |none=>
  rw [hs] at ka hres
  simp only at hres
  simp only [gG] at ka
  repeat' (first|(refine cC ?_;simp only [wS,simprocAttr,be])|refine aM|(refine bO bX (ka) ?_;refine aA))
  refine bK (v:=.agg [.int .i64 0,.int .i64 0,.int .i64 0,.sl true []]) rfl ?_ ?_
  .refine aA
  .refine aA
   rw [hres];rfl
 |some n=>
  rw [hs] at ka hres
  simp only at hres
  simp only [gG] at ka
  have hn:=dj (T.sub_size hs) hc
  have kn:=T.enc_tree n
  cases ho:W1 O s with
  |none=>
   have c3:True:=trivial
   rw [ho] at hres
   simp only at hres
   obtain ⟨na,nb,nc,nd,hne⟩:=aN n
   rw [hne] at ka
   by_cases hs0:s<0
   .have c1:decide (s<0)=true:=by simp [hs0]
    have c2:True:=trivial
    refine dM (eB c1 c2 c3)
    refine bK (v:=.agg [.int .i64 0,.int .i64 0,.int .i64 0,.sl true []]) rfl ?_ ?_
    .refine aA
    .refine aA
     rw [hres];rfl
   .have c1:decide (s<0)=false:=by simp;omega
    have c2:decide (s >= ((OL.length:Nat):Int))=true:=by have:=L5 ho;simp;omega
    refine dM (eB c1 c2 c3)
    refine bK (v:=.agg [.int .i64 0,.int .i64 0,.int .i64 0,.sl true []]) rfl ?_ ?_
    .refine aA
    .refine aA
     rw [hres];rfl
  |some o=>
   rw [ho] at hres
   simp only at hres
   obtain ⟨j,rfl,hoj⟩:=L4 ho
   have hom:=hO o (aj hoj)
   have go:=hOg j o hoj
   have hjl:j<OL.length:=by have:=(aq.1 hoj).1;omega
   have c1:decide (((j:Nat):Int)<0)=false:=by simp
   have c2:decide (((j:Nat):Int) >= ((OL.length:Nat):Int))=false:=by simp;omega
   by_cases hl:O.length<=24
   .rw [if_pos hl] at hres
    have c3:decide (((OL.length:Nat):Int) > 24)=false:=by simp;omega
    have kap:=H2 o.1 o.2.1 o.2.2.1 o.2.2.2 (dj hom.1 (by decide)) (dj hom.2 (by decide)) n hn
    rw [show T.app o.1 o.2.1 o.2.2.1 o.2.2.2 n=res from hres.symm] at kap
    clear hom
    obtain ⟨onm,of',op,oob⟩:=o
    obtain ⟨ofa,ofb,ofc,ofd,hfe⟩:=aN of'
    obtain ⟨opa,opb,opc,opd,hpe⟩:=aN op
    simp only [eE,sF,hfe,hpe,ar,ba] at go kap
    obtain ⟨na,nb,nc,nd,hne⟩:=aN n
    rw [hne] at ka kap
    cases res with
    |none=>
     simp only [gG] at kap
     repeat' (first|(refine cC ?_;simp only [wS,simprocAttr,c1,c2,c3,bf,be,go,hjl])|refine aM|(refine bO bX (ka) ?_;simp only [wS,simprocAttr,c1,c2,c3,bf,be])|refine iP ?_|fail)
     refine bK (v:=.agg [.int .i64 0,.int .i64 0,.int .i64 0,.sl false []]) rfl ?_ ?_
     .refine aA
     .refine aA;rfl
    |some x=>
     have hxw:=T.wk_enc x
     obtain ⟨xa,xb,xc,xd,hxe⟩:=aN x
     simp only [gG] at kap
     rw [hxe] at kap hxw
     repeat' (first|(refine cC ?_;simp only [wS,simprocAttr,c1,c2,c3,bf,be,go,hjl])|refine aM|(refine bO bX (ka) ?_;simp only [wS,simprocAttr,c1,c2,c3,bf,be])|refine iP ?_|fail)
     refine bK (v:=.agg [.int .i64 xa,.int .i64 xb,.int .i64 xc,.sl false xd]) rfl ?_ ?_
     .refine aA
     .refine aA
      rw [gG,hxe,AM.wk,wkL,AM.wk,hxw,wkL,AM.wk,wkL]
   .rw [if_neg hl] at hres
    have c3:decide (((OL.length:Nat):Int) > 24)=true:=by simp;omega
    obtain ⟨na,nb,nc,nd,hne⟩:=aN n
    rw [hne] at ka
    refine dM (eB c1 c2 c3)
    refine bK (v:=.agg [.int .i64 0,.int .i64 0,.int .i64 0,.sl true []]) rfl ?_ ?_
    .refine aA
    .refine aA
     rw [hres];rfl
end Go.Proofs.YtggflhbigolakaaGreatDoor
