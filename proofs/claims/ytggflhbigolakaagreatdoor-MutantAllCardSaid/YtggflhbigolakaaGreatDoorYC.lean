import Derived.Test.YtggflhbigolakaaGreatDoorVF
import Derived.Test.YtggflhbigolakaaGreatDoorYB
set_option linter.unusedSimpArgs false
namespace Go.Proofs.YtggflhbigolakaaGreatDoor
open Go.AM
attribute [local irreducible] cG bG bI bL bW bZ aQ aV bN
set_option maxRecDepth 100000
namespace G7
def args (ex:Int->St->T × St):List T->St->List T × St
 | [],s=>([],s)
 |t::ts,s=>match ex t.kind s with
  |(a,s1)=>match args ex ts s1 with
   |(l,s2)=>(a::l,s2)
def callEnd (e:Env) (ex:Int->St->T × St) (kind:Int) (f:Nat) (s:St):T × St:=match e.fs[f]? with
 |some fd=>match args ex (fd.2.take fd.1) s with
  |(l,s1)=>nd kind f l s1
 |none=>(.mk 0 0 0 [],s)
def call (e:Env) (ex:Int->St->T × St) (kind:Int) (s:St):T × St:=match dr e e.fs.length s with
 |(f,s1)=>if 1<e.fs.length then (match dr e 8 s1 with
  |(z,s2)=>if z > 0 then (match dr e ((e.fs.length:Int) - 1) s2 with
   |(y,s3)=>callEnd e ex kind (1+y).toNat s3) else callEnd e ex kind f.toNat s2) else callEnd e ex kind f.toNat s1
end G7
structure NO (x:MX) (e:G7.Env):Prop where
 L:x.L=e.L
 con:x.con=e.con
 pn:x.pn=e.pn
 fs:∃ n vP bP c3,x.kv=.osl 3 vP 0 n 4 bP/\x.A3=.cells vP c3/\c3.length=n*4/\1<=n/\n<=3/\e.fs.length=n/\∀ f,f<n->∃ r fn tl fd,e.fs[f]? =some fd/\fn.wf/\t7 x r fn/\c3.drop (f*4)=fn.cells r++tl/\fn.p=fd.1/\fn.q=fd.2.length/\(fn.ks.take fn.q).map wkL=T.encs fd.2
theorem YK {f:Fn} (hw:f.wf) {ts:List T} (h:(f.ks.take f.q).map wkL=T.encs ts) {j:Nat} (hj:j<f.q):∃ k n m b es tl t,ts[j]? =some t/\t.kind=k/\f.ks.flatten.drop (j*4)=.int .i64 k::.int .i64 n::.int .i64 m::.sl b es::tl:=by
 obtain ⟨k,n,m,b,es,tl,h1,h2,h3,h4⟩:=UY hw (j:=j) (by omega)
 rw [T.encs_map] at h
 have hg:((f.ks.take f.q).map wkL)[j]? =some (wkL [.int .i64 k,.int .i64 n,.int .i64 m,.sl b es]):=by rw [bh,ep,if_pos hj,h1];rfl
 rw [h,bh] at hg
 obtain ⟨t,ht,he⟩:=bw.1 hg
 refine ⟨k,n,m,b,es,tl,t,ht,?_,h4⟩
 obtain ⟨k',n',m',ts⟩:=t
 simp only [T.enc,wkL,AM.wk,de,AV.int.injEq,true_and] at he
 exact he.1
theorem P7 {s:AS} {fp:List Nat} {q:Nat->Bool} {k:Nat} {x:ARow} (h1:q k=true) (h2:aG q x=true) (h3:k ∉ fp):(q k=false/\x=.none)\/(q k=true/\aG q x=true/\jW s.row fp k x x):=.inr ⟨h1,h2,.inr ⟨.inl h3,.inl rfl⟩⟩
theorem vvX {α:Type} {l:List α}:l.length=if l=[] then 0 else l.length - 1+1:=by
 by_cases h:l=[]
 .rw [if_pos h,h];rfl
 .rw [if_neg h]
  have:l.length≠0:=fun e=>h (cu e)
  omega
theorem mI (ts:List T):∀ e∈T.encs ts,e.length=4:=fun e he=>by
 rw [T.encs_map] at he
 obtain ⟨y,_,rfl⟩:=cf.1 he
 exact T.enc_len y
theorem hZ (ts:List T):(T.encs ts).map wkL=T.encs ts:=by
 rw [T.encs_map,gn]
 exact fg fun t _=>T.wk_enc t
theorem fB (ts:List T) (k n m:Int) (es:List T):T.encs (ts++[.mk k n m es])=T.encs ts++[[.int .i64 k,.int .i64 n,.int .i64 m,.sl false (T.encs es)]]:=by
 rw [T.encs_map,T.encs_map,dq];rfl
set_option maxHeartbeats 8000000 in
theorem VS {x:MX} {e:G7.Env} (hx:x.ok) (h:NO x e) (kind depth:Int) (hd1: -9223372036854775808<depth) (hd2:depth<=9223372036854775807) (ex:Int->St->T × St) (hE:∀ kd:Int,rK x 134 [.int .i64 kd,.int .i64 (depth - 1)] vT (ex kd)):rK x 133 [.int .i64 kind,.int .i64 depth] vT (G7.call e ex kind):=by
 obtain ⟨n,vP,bP,c3,hkv,hA3,hlen,hn1,hn3,hfl,hfun⟩:=h.fs
 have ed:IntKind.i64.wrap (depth - 1)=depth - 1:=bC (by omega) (by omega)
 have en:IntKind.i64.wrap ((n:Int) - 1)=(n:Int) - 1:=bC (by omega) (by omega)
 have hfr:=hx.fr
 have hr2:=hfr.r2
 have hr4:=hfr.r4
 have hr5:=hfr.r5
 have hr3:=hfr.r3
 have hL0:aI aE (cY x.L)=true:=fP x.L
 rw [hA3] at hr3
 have hrow:∀ (q:Nat->Bool),(∀ r,mH r=true->q r=true)->∀ a l:Int,aG q (.cells 0 [cY x.L,.int .i64 (a),.int .i64 (l),.int .i64 x.pk,.int .i64 x.pn,.int .i64 x.pm,.osl 3 vP 0 n 4 bP,.int .i64 x.F,.bool x.con])=true:=fun q hq a l=>by
  have:=hfr.row a l
  simp only [MX.row,hkv] at this
  exact bJ hq this
 have hk8:∀ r,mH r=true->kp [0,1,2,3,4,5,6,7] r=true:=fun r hr=>by simp [mH] at hr;simp [kp];omega
 have hk7:∀ r,mH r=true->kp [0,1,2,3,4,5,6] r=true:=fun r hr=>by simp [mH] at hr;simp [kp];omega
 refine eC hx.fr Tryz.func133 rfl (by kernel_rfl) (by simp [Tryz.ntmps133]) rfl fun at0 left=>?_
 simp only [Tryz.ntmps133,aK,Nat.reduceAdd,MX.row,hkv,hA3]
 refine cR fun K0 hK0=>?_
 refine cP (bF hkv hA3)
 refine hK0.go ?_
 refine cR fun K1 hK1=>?_
 refine cP (bF hkv hA3)
 refine aW (dT h.L hx.fr n (by omega)) at0 left (cH (bF hkv hA3)) ?_
 rintro z a1 l1 hz
 obtain ⟨hz1,hz2⟩:=G7.dr_b (by omega) hz
 obtain ⟨f,rfl⟩:∃ f:Nat,z=f:=⟨z.toNat,(dc hz1).symm⟩
 simp only [wS,simprocAttr,MX.row,hkv,hA3,vI]
 refine cP (bF hkv hA3)
 refine hK1.go ?_
 refine cR fun K2 hK2=>?_
 have key:∀ (f:Nat) (a1 l1:Int) (s:AS),f<n->G7.call e ex kind (at0,left)=G7.callEnd e ex kind f (a1,l1)->Ref G0 78 6 s ⟨eJ [(0,.ptr 1 0 0),(1,.int .i64 kind),(2,.int .i64 depth),(6,.ptr 6 0 0),(7,.int .i64 (f:Nat))],[.dead,.cells 0 [cY x.L,.int .i64 (a1),.int .i64 (l1),.int .i64 x.pk,.int .i64 x.pn,.int .i64 x.pm,.osl 3 vP 0 n 4 bP,.int .i64 x.F,.bool x.con],x.A2,.cells vP c3,x.A4,x.A5,.cells 0 [.int .i64 0,.int .i64 0,.int .i64 0,.sl true []]]⟩->K2 s:=by
  intro f a1 l1 s hf hgo hr
  refine hK2.go (cK hr ?_)
  obtain ⟨r,fn,tl,fd,hfd,hw,ha,hd,hfp,hfq,hks⟩:=hfun f hf
  have hd1:c3.drop (f*4+1)=.int .i64 (fn.p:Nat)::.int .i64 0::.osl r fn.v 0 (fn.q+1) 4 fn.b::tl:=by rw [<- ji,hd];rfl
  have hd3:c3.drop (f*4+3)=.osl r fn.v 0 (fn.q+1) 4 fn.b::tl:=by rw [<- ji,hd];rfl
  have hp:=hw.2.1
  have hq:=hw.2.2.1
  have hR:∀ Z Y X,[.dead,Z,x.A2,.cells vP c3,x.A4,x.A5,Y,X].getD r .none=fn.row:=fun Z Y X=>by
   rcases ha with ⟨rfl,h⟩|⟨rfl,h⟩|⟨rfl,h⟩<;>exact h
  have htl:(fd.2.take fd.1).length=fn.p:=by rw [cr];omega
  refine aR (bF hkv hA3)
  refine aJ (α:={p:List T × Int × Int // p.1.length<=fn.p/\G7.args ex (fd.2.take fd.1) (a1,l1)=(match G7.args ex ((fd.2.take fd.1).drop p.1.length) p.2 with|(l,s)=>(p.1++l,s))}) (fun p=>[(0,.ptr 1 0 0),(1,.int .i64 kind),(2,.int .i64 depth),(6,.ptr 6 0 0),(7,.int .i64 (f:Nat)),(8,rv 7 ((T.encs p.1.1).length - 1) 4 (T.encs p.1.1)),(9,.int .i64 (p.1.1.length:Nat))]) (fun p=>[.dead,.cells 0 [cY x.L,.int .i64 (p.1.2.1),.int .i64 (p.1.2.2),.int .i64 x.pk,.int .i64 x.pn,.int .i64 x.pm,.osl 3 vP 0 n 4 bP,.int .i64 x.F,.bool x.con],x.A2,.cells vP c3,x.A4,x.A5,.cells 0 [.int .i64 0,.int .i64 0,.int .i64 0,.sl true []],eX ((T.encs p.1.1).length - 1) (T.encs p.1.1)]) (fun p=>fn.p - p.1.1.length) ⟨([],a1,l1),az _,by simp only [co,ak,ba]⟩ (cA [] (kp [0,1,2,3,4,5,6,7]) bX (fun r hr=>by have h6:r<6:=hr;clear hr;simp [kp];omega) ?_ ?_ ?_) ?_
  .simp only [wS,simprocAttr,dL,iD,and_true,true_or,T.encs,eI]
   exact .toRsv
  .rfl
  .simp only [wS,simprocAttr,T.encs,eI,eG,MX.row,hkv,hA3]
   simp only [hY,and_true]
   exact ⟨P7 rfl rfl (by simp),P7 rfl (hrow _ hk8 a1 l1) (by simp),P7 rfl (bJ hk8 hr2) (by simp),P7 rfl (bJ hk8 hr3) (by simp),P7 rfl (bJ hk8 hr4) (by simp),P7 rfl (bJ hk8 hr5) (by simp),P7 rfl rfl (by simp)⟩
  .rintro ⟨⟨ts,a2,l2⟩,hl,hinv⟩ K3 hK3
   simp only at hl hinv
   have htr:=T.encs_tree ts
   have hl4:=mI ts
   have hle:=T.encs_len ts
   have hvv:=vvX (l:=T.encs ts)
   by_cases hlt:ts.length<fn.p
   .have c1:decide (((ts.length:Nat):Int)<((fn.p:Nat):Int))=true:=by simp;omega
    have hq1:ts.length<fn.q+1:=by omega
    have e3:=aO (k:=ts.length) hlt (by omega)
    obtain ⟨kd,nn,mm,b,es,tl2,t0,ht0,htk,hdk⟩:=YK hw hks (j:=ts.length) (by omega)
    have ht0':(fd.2.take fd.1)[ts.length]? =some t0:=by rw [ep,if_pos (by omega),ht0]
    have hdr:(fd.2.take fd.1).drop ts.length=t0::(fd.2.take fd.1).drop (ts.length+1):=by
     obtain ⟨q1,q2⟩:=aq.1 ht0'
     rw [cg q1,q2]
    rw [hdr,G7.args,htk] at hinv
    have hnx:∀ (t1:T) (a3 l3:Int),ex kd (a2,l2)=(t1,(a3,l3))->(ts++[t1]).length<=fn.p/\G7.args ex (fd.2.take fd.1) (a1,l1)=(match G7.args ex ((fd.2.take fd.1).drop (ts++[t1]).length) (a3,l3) with|(l,s)=>((ts++[t1])++l,s)):=fun t1 a3 l3 he=>by
     refine ⟨by simp;omega,?_⟩
     rw [hinv,he,an,am]
     simp only [bj,dw]
    have hkd:=hE kd
    repeat' (first|(refine cC ?_;simp only [wS,simprocAttr,MX.row,hf,hd1,hd3,hq1,Fn.row,hdk,ed,hR,hkv,hA3,c1,e3])|refine aH|(refine aW (hkd) _ _ (cH (bF hkv hA3)) ?_;rintro ⟨k1,n1,m1,es1⟩ a3 l3 he;have hnx':=hnx _ _ _ he;have hsn:=fB ts k1 n1 m1 es1;have hml:(T.encs ts++[[AV.int .i64 k1,.int .i64 n1,.int .i64 m1,.sl false (T.encs es1)]]).length - 1=(T.encs ts).length:=(by simp);have hln:(ts++[T.mk k1 n1 m1 es1]).length=ts.length+1:=(by simp);simp only [wS,simprocAttr,MX.row,hkv,hA3,vT,T.enc])|refine cL (v':=(T.encs ts).length) (es:=[[.int .i64 k1,.int .i64 n1,.int .i64 m1,.sl false (T.encs es1)]]) (by':=48) (by kernel_rfl) aZ hvv hl4 (by simp [cW]) (by simp) (by simp only [af,ak];omega) (gR ?_)|with_reducible refine aa (by kernel_rfl) ?_)
    refine hK3.go ⟨(ts++[T.mk k1 n1 m1 es1],a3,l3),hnx'.1,hnx'.2⟩ aX (by simp only;omega)
    .simp only [wS,simprocAttr,hsn,hml,hln];try exact rfl
    .simp only [wS,simprocAttr,hsn,hml,MX.row,hkv,hA3];try exact rfl
    .intro z hz
     replace hz:=aC hz
     rcases hz with rfl|rfl|rfl|rfl|rfl|rfl|rfl<;>first|rfl|exact bU rfl
    .refine aS
     exact ⟨rfl,hrow _ (gZ (by simp)) a3 l3,bJ (gZ (by simp)) hr2,bJ (gZ (by simp)) hr3,bJ (gZ (by simp)) hr4,bJ (gZ (by simp)) hr5,rfl,bA (aB (T.encs_tree _))⟩
   .have c1:decide (((ts.length:Nat):Int)<((fn.p:Nat):Int))=false:=by simp;omega
    have hq1:True:=trivial
    rw [dz (by omega),G7.args,br] at hinv
    have hend:∀ t a l,G7.nd kind f ts (a2,l2)=(t,(a,l))->G7.call e ex kind (at0,left)=(t,(a,l)):=fun t a l he=>by
     rw [hgo,G7.callEnd,hfd]
     simp only [hinv,he]
    refine cK (cA [7] (kp [0,1,2,3,4,5,6]) (l:=[(0,.ptr 1 0 0),(1,.int .i64 kind),(6,.ptr 6 0 0),(7,.int .i64 (f:Nat)),(8,.sl false (T.encs ts)),(9,.int .i64 (ts.length:Nat))]) (h:=[.dead,.cells 0 [cY x.L,.int .i64 (a2),.int .i64 (l2),.int .i64 x.pk,.int .i64 x.pn,.int .i64 x.pm,.osl 3 vP 0 n 4 bP,.int .i64 x.F,.bool x.con],x.A2,.cells vP c3,x.A4,x.A5,.cells 0 [.int .i64 0,.int .i64 0,.int .i64 0,.sl true []]]) bX (fun r hr=>by have h6:r<6:=hr;clear hr;simp [kp];omega) ?_ ?_ ?_) ?_
    .simp only [wS,simprocAttr,dL,iD,and_true,true_or]
     exact .inr (eA (v:=(T.encs ts).length - 1) aZ (by simp) hl4 htr)
    .simp only [bg,bz,aI,aB htr,ab,ac];rfl
    .simp only [wS,simprocAttr,MX.row,hkv,hA3]
     simp only [hY,and_true]
     exact ⟨P7 rfl rfl (by simp),P7 rfl (hrow _ hk7 a2 l2) (by simp),P7 rfl (bJ hk7 hr2) (by simp),P7 rfl (bJ hk7 hr3) (by simp),P7 rfl (bJ hk7 hr4) (by simp),P7 rfl (bJ hk7 hr5) (by simp),P7 rfl rfl (by simp),rfl⟩
    have kn:=gN hfr kind (f:Nat) false (T.encs ts) ts (hZ ts) htr
    have hF:True:=trivial
    repeat' (first|(refine cC ?_;simp only [wS,simprocAttr,MX.row,c1,hkv,hA3,hf,hd1])|refine aH|(refine aW (kn) _ _ (cH (bF hkv hA3)) ?_;rintro ⟨k1,n1,m1,es1⟩ a3 l3 he;replace hF:=aa hF he;simp only [wS,simprocAttr,MX.row,hkv,hA3,vT,T.enc])|with_reducible refine aa (by kernel_rfl) ?_)
    obtain ⟨_,hF⟩:=hF
    refine eM (x:=x) (at0:=at0) (left:=left) (val:=vT) (g:=G7.call e ex kind) rfl (by simp only [wS,simprocAttr,MX.row,hkv,hA3];try exact rfl) (cH (bF hkv hA3)) ?_ (hend _ _ _ hF) (.inl rfl)
    simp only [vT,T.enc,aI,aP,T.encs_tree,ai]
 clear hK2
 by_cases h1n:1<n
 .have c1:decide (((n:Nat):Int) > 1)=true:=by simp;omega
  have hF:=hz
  repeat' (first|(refine cC ?_;simp only [wS,simprocAttr,MX.row,hkv,hA3,c1,en])|refine aH|(refine aW (dT h.L hfr 8 (by decide)) _ _ (cH (bF hkv hA3)) ?_;rintro r a1 l1 he;replace hF:=aa hF he;simp only [wS,simprocAttr,MX.row,hkv,hA3,c1,vI])|(refine aW (dT h.L hfr ((n:Int) - 1) (by omega)) _ _ (cH (bF hkv hA3)) ?_;rintro w a1 l1 he;replace hF:=aa hF he;obtain ⟨hw1,hw2⟩:=G7.dr_b (by omega) he;obtain ⟨f2,hf2⟩:∃ f2:Nat,1+w=f2:=⟨(1+w).toNat,(dc (by omega)).symm⟩;have ew:IntKind.i64.wrap (f2:Int)=f2:=bC (by omega) (by omega);simp only [wS,simprocAttr,MX.row,hkv,hA3,c1,vI,ew,hf2])|(with_reducible refine aa (fun hg=>?_) (fun hg=>?_)<;>((try simp only [decide_eq_true_eq,decide_eq_false_iff_not] at hg);replace hF:=aa hF hg))|with_reducible refine aa (by kernel_rfl) ?_)
  .refine key f2 a1 l1 _ (by omega) ?_ (Weak.ref ⟨aZ,.inl (by (simp only [wS,simprocAttr,MX.row,hkv,hA3];try exact rfl))⟩)
   simp only [G7.call,hfl,hF,if_pos h1n,if_true]
   rw [hf2];rfl
  .refine key f a1 l1 _ (by omega) ?_ (Weak.ref ⟨aZ,.inl (by (simp only [wS,simprocAttr,MX.row,hkv,hA3];try exact rfl))⟩)
   simp only [G7.call,hfl,hF,if_pos h1n,if_false];rfl
 .have c1:decide (((n:Nat):Int) > 1)=false:=by simp;omega
  repeat' (first|(refine cC ?_;simp only [wS,simprocAttr,MX.row,hkv,hA3,c1])|refine aH|(with_reducible refine aa (fun hg=>?_) (fun hg=>?_)<;>((try simp only [decide_eq_true_eq,decide_eq_false_iff_not] at hg);replace hF:=aa hF hg))|with_reducible refine aa (by kernel_rfl) ?_)
  refine key f a1 l1 _ (by omega) ?_ (Weak.ref ⟨aZ,.inl (by (simp only [wS,simprocAttr,MX.row,hkv,hA3];try exact rfl))⟩)
  simp only [G7.call,hfl,hz,if_neg h1n];rfl
end Go.Proofs.YtggflhbigolakaaGreatDoor
