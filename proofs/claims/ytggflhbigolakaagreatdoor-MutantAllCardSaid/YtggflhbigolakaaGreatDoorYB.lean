import Derived.Test.YtggflhbigolakaaGreatDoorYA
set_option linter.unusedSimpArgs false
namespace Go.Proofs.YtggflhbigolakaaGreatDoor
open Go.AM
attribute [local irreducible] cG bG bI bL bW bZ aQ aV bN
set_option maxRecDepth 100000
namespace G7
def tab:List Int:=[0,1,2,3, -1,7, -8,5,4, -3]
def leaf2 (e:Env) (kind:Int) (s:St):T × St:=if kind==1 then (match dr e 2 s with
  |(z,s1)=>nd 5 z [] s1) else (match dr e 10 s with
  |(z,s1)=>nd 4 (tab.getD z.toNat 0) [] s1)
def leaf (e:Env) (kind:Int) (s:St):T × St:=match dr e 3 s with
 |(z,s1)=>if z > 0 then (match pick e kind s1 with
  |(v,s2)=>if v >= 0 then nd 6 v [] s2 else leaf2 e kind s2) else leaf2 e kind s1
theorem pickL_cases (vs:List T) (kind fr:Int) (hfr:0<=fr):∀ (m i:Nat),pickL vs kind fr i m= -1\/∃ (j:Nat) (t:T),pickL vs kind fr i m=j/\vs[j]? =some t/\t.kind=kind
 |0,i=>.inl rfl
 |m+1,i=>by
  rw [pickL]
  split
  .rename_i t ht
   split
   .rename_i hk
    have hl:=(aq.1 ht).1
    refine .inr ⟨_,t,?_,ht,hk⟩
    have:0<=(fr+(i:Int)).tmod vs.length:=Int.tmod_nonneg _ (by omega)
    omega
   .exact pickL_cases vs kind fr hfr m (i+1)
  .exact .inl rfl
theorem pick_cases {e:Env} {kind:Int} {s s1:St} {z:Int} (h:pick e kind s=(z,s1)):z= -1\/∃ (j:Nat) (t:T),z=j/\e.vars[j]? =some t/\t.kind=kind:=by
 simp only [pick,db] at h
 rw [<- h.1]
 exact pickL_cases _ _ _ (B1 e.L _ 6 (by decide)).1 _ _
theorem dr_b {e:Env} {n:Int} {s s1:St} {z:Int} (hn:0<n) (h:dr e n s=(z,s1)):0<=z/\z<n:=by
 simp only [dr,db] at h
 rw [<- h.1]
 exact B1 e.L _ n hn
end G7
theorem aAh {l:List Int} {j:Nat} (h:j<l.length):∃ y,(l.map fun x=>[AV.int .i64 x])[j]? =some [AV.int .i64 y]/\l.getD j 0=y:=⟨l[j],by rw [bh,ah h];rfl,by rw [bc,ah h];rfl⟩
theorem PK {x:MX} {e:G7.Env} {r:Nat} {f:Fn} (hx:x.ok) (h:EnvOK x e r f) (kind:Int):rK x 136 [.int .i64 kind] vF (G7.field e kind):=by
 obtain ⟨hw,ha,hv⟩:=h.va
 have hA:=OA ha
 have hr1:=aAJ ha
 have kd:=dT h.L hx.fr 3 (by decide)
 have kp:=yN hx h 3
 refine eC hx.fr Tryz.func136 rfl (by kernel_rfl) (by simp [Tryz.ntmps136]) rfl fun at0 left=>?_
 simp only [Tryz.ntmps136,aK,Nat.reduceAdd,MX.row]
 refine aF
 refine aW kp at0 left ?_ ?_
 .refine ⟨?_,?_,?_,?_,?_⟩<;>((try simp only [wS,simprocAttr,MX.row]);try exact rfl)
 rintro z a1 l1 hp
 simp only [wS,simprocAttr,vI,MX.row]
 rcases G7.pick_cases hp with rfl|⟨j,t,rfl,ht,htk⟩
 .have c0:decide ((-1:Int)<0)=true:=rfl
  refine bB c0
  refine y6 (x:=x) (at0:=at0) (left:=left) (val:=vF) (g:=G7.field e kind) (a:=a1) (l:=l1) (r:=(-1,0)) rfl (by refine aA;exact rfl) bS rfl (by simp only [G7.field,hp];exact rfl) (.inl rfl)
 .have hj:j<f.q:=by have:=(aq.1 ht).1;rw [h.q];exact this
  obtain ⟨kd',nn,mm,b,es,tl,ts,hvt,_,hes,hes2,hd⟩:=h.get hj
  obtain rfl:t=.mk kd' nn mm ts:=ir (ht.symm.trans hvt)
  have hd3:f.ks.flatten.drop (j*4+3)=.sl b es::tl:=by rw [<- ji,hd];rfl
  have hsl:es.length=ts.length:=by
   have:=congrArg List.length hes
   rwa [bp,T.encs_len] at this
  have hs6:=fun (i:Nat) (c:List AV) (hc:es[i]? =some c)=>hes2 c (aj hc)
  have c0:decide (((j:Nat):Int)<0)=false:=by simp
  refine bB c0
  refine cM (hv _ a1 l1 ?_) ?_
  .refine ⟨?_,?_,?_,?_,?_⟩<;>((try simp only [wS,simprocAttr,MX.row]);try exact rfl)
  simp only [wS,simprocAttr,hj,hA,Fn.row,hd,hd3,hr1,if_false]
  repeat' (first|(refine cC ?_;simp only [wS,simprocAttr,hj,hA,Fn.row,hd,hd3,hr1,if_false])|refine aH|fail)
  refine aW kd a1 l1 ?_ ?_
  .refine ⟨?_,?_,?_,?_,?_⟩<;>((try simp only [wS,simprocAttr,MX.row]);try exact rfl)
  rintro fr a2 l2 hdr
  obtain ⟨hf1,hf2⟩:=G7.dr_b (by decide) hdr
  have hfi:∀ p,(if G7.pickL ts kind fr 0 ts.length<0 then ((-1:Int),(0:Int)) else ((j:Int),G7.pickL ts kind fr 0 ts.length))=p->G7.field e kind (at0,left)=(p,(a2,l2)):=fun p hpp=>by
   simp only [G7.field,hp]
   rw [if_neg (by omega)]
   simp only [ax,ht,hdr,T.kids]
   rw [hpp]
  have hcs:=G7.pickL_cases ts kind fr hf1 ts.length 0
  rw [<- hsl] at hfi hcs
  simp only [wS,simprocAttr,vI,MX.row]
  refine aF
  refine aJ (α:={k:Nat // k<=es.length/\G7.pickL ts kind fr 0 es.length=G7.pickL ts kind fr k (es.length - k)}) (fun k=>[(0,.ptr 1 0 0),(1,.int .i64 kind),(6,.int .i64 (j:Nat)),(7,.sl b es),(8,.int .i64 fr),(9,.int .i64 (k.1:Nat))]) (fun _=>[.dead,x.row a2 l2,x.A2,x.A3,x.A4,x.A5]) (fun k=>es.length - k.1) ⟨0,az _,rfl⟩ (Weak.ref ⟨?_,.inl ?_⟩) ?_
  .exact aZ
  .simp only [wS,simprocAttr,hA,Fn.row];try exact rfl
  .rintro ⟨k,hk,hinv⟩ K hK
   try simp only at hk hinv
   have he12:es.length<=1000000000:=h.small hj hvt hes
   by_cases hlt:k<es.length
   .have c1:decide (((k:Nat):Int)<((es.length:Nat):Int))=true:=by simp;omega
    have hq0:((es.length:Nat):Int)≠0:=by omega
    have e1:IntKind.i64.wrap (fr+(k:Int))=fr+k:=bC (by omega) (by omega)
    obtain ⟨i,e2,hi⟩:=OR (a:=fr+(k:Int)) (q:=es.length) (by omega) (by omega)
    obtain ⟨c,hc⟩:∃ c,es[i]? =some c:=⟨_,ah hi⟩
    obtain ⟨k1,n1,m1,b1,es1,rfl⟩:=Y3 (hs6 i c hc)
    obtain ⟨t1,ht1,hk1⟩:∃ t1,ts[i]? =some t1/\t1.kind=k1:=by
     have hg:(es.map wkL)[i]? =some (wkL [.int .i64 k1,.int .i64 n1,.int .i64 m1,.sl b1 es1]):=by rw [bh,hc];rfl
     rw [hes,T.encs_map,bh] at hg
     obtain ⟨t1,g1,g2⟩:=bw.1 hg
     refine ⟨t1,g1,?_⟩
     obtain ⟨k',n',m',es'⟩:=t1
     simp only [T.enc,wkL,AM.wk,de,AV.int.injEq,true_and] at g2
     exact g2.1
    have e3:=aO (k:=k) hlt (by omega)
    have hstep:G7.pickL ts kind fr k (es.length - k)=if k1=kind then (i:Int) else G7.pickL ts kind fr (k+1) (es.length - (k+1)):=by
     rw [show es.length - k=(es.length - (k+1))+1 by omega,G7.pickL,<- hsl,e2]
     simp only [ax,ht1,hk1]
    by_cases hkk:k1=kind
    .have c2:(k1==kind)=true:=by simp [hkk]
     rw [if_pos hkk] at hstep
     repeat' (first|(refine cC ?_;simp only [wS,simprocAttr,MX.row,e1,e2,e3,hq0,hi,hc,c1,c2])|refine aM|fail)
     refine y6 (x:=x) (at0:=at0) (left:=left) (val:=vF) (g:=G7.field e kind) (a:=a2) (l:=l2) rfl (by refine aA;exact rfl) bS rfl (hfi ((j:Int),(i:Int)) (by rw [hinv,hstep,if_neg (by omega)])) (.inl rfl)
    .have c2:(k1==kind)=false:=by simp [hkk]
     rw [if_neg hkk] at hstep
     repeat' (first|(refine cC ?_;simp only [wS,simprocAttr,MX.row,e1,e2,e3,hq0,hi,hc,c1,c2])|refine aM|fail)
     refine hK.go ⟨k+1,hlt,hinv.trans hstep⟩ (Weak.ref ⟨?_,.inl ?_⟩) (by simp only;omega)
     .exact aZ
     .exact aZ
   .have c1:decide (((k:Nat):Int)<((es.length:Nat):Int))=false:=by simp;omega
    rw [show es.length - k=0 by omega,G7.pickL] at hinv
    refine bB c1
    refine y6 (x:=x) (at0:=at0) (left:=left) (val:=vF) (g:=G7.field e kind) (a:=a2) (l:=l2) rfl (by refine aA;exact rfl) bS rfl (hfi (-1,0) (by rw [hinv];rfl)) (.inl rfl)
set_option maxHeartbeats 4000000 in
theorem MT {x:MX} {e:G7.Env} {r:Nat} {f:Fn} (hx:x.ok) (h:EnvOK x e r f) (kind:Int):rK x 141 [.int .i64 kind] vT (G7.leaf e kind):=by
 have hF:True:=trivial
 have t0:True:=trivial
 refine eC hx.fr Tryz.func141 rfl (by kernel_rfl) (by simp [Tryz.ntmps141]) rfl fun at0 left=>?_
 simp only [Tryz.ntmps141,aK,Nat.reduceAdd,MX.row]
 repeat' (first|(refine cC ?_;simp only [wS,simprocAttr,MX.row,t0])|refine aH|(refine aW (dT h.L hx.fr 10 (by decide)) _ _ bS ?_;rintro z a1 l1 he;replace hF:=aa hF he;obtain ⟨hz1,hz2⟩:=G7.dr_b (by decide) he;obtain ⟨j,rfl⟩:∃ j:Nat,z=j:=⟨z.toNat,(dc hz1).symm⟩;obtain ⟨y,t0,hy⟩:=aAh (l:=G7.tab) (j:=j) (Int.ofNat_lt.1 hz2);replace hF:=aa hF hy;simp only [G7.tab,ay,bu] at t0;simp only [wS,simprocAttr,MX.row,vI,vT,t0])|(refine aW (dT h.L hx.fr _ (by decide)) _ _ bS ?_;rintro r a1 l1 he;replace hF:=aa hF he;simp only [wS,simprocAttr,MX.row,vI,vT])|(refine aW (yN hx h kind) _ _ bS ?_;rintro r a1 l1 he;replace hF:=aa hF he;simp only [wS,simprocAttr,MX.row,vI,vT])|(refine aW (gN hx.fr _ _ _ _ [] rfl rfl) _ _ bS ?_;rintro ⟨k1,n1,m1,es1⟩ a1 l1 he;replace hF:=aa hF he;simp only [wS,simprocAttr,MX.row,vI,vT,T.enc])|(with_reducible refine aa (fun hg=>?_) (fun hg=>?_)<;>((try simp only [decide_eq_true_eq,decide_eq_false_iff_not] at hg);replace hF:=aa hF hg))|with_reducible refine aa (by kernel_rfl) ?_)
 all_goals refine eM (x:=x) (at0:=at0) (left:=left) (val:=vT) (g:=G7.leaf e kind) rfl (by simp only [wS,simprocAttr,MX.row];try exact rfl) bS ?_ (by simp only [G7.leaf,G7.leaf2,ax,hF,if_true,if_false,aw];exact rfl) ?_
 all_goals first|exact .inl rfl|(simp only [aI,aP,T.encs_tree,ai])
end Go.Proofs.YtggflhbigolakaaGreatDoor
