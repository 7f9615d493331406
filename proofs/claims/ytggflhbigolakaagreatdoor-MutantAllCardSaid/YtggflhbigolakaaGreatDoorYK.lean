import Derived.Test.YtggflhbigolakaaGreatDoorAE
import Derived.Test.YtggflhbigolakaaGreatDoorYC
import Derived.Test.YtggflhbigolakaaGreatDoorYU
import Derived.Test.YtggflhbigolakaaGreatDoorYV
set_option linter.unusedSimpArgs false
namespace Go.Proofs.YtggflhbigolakaaGreatDoor
open Go.AM
attribute [local irreducible] cG bG bI bL bW bZ aQ aV bN
set_option maxRecDepth 100000
def HS (L:List Int) (a l pn:Int) (con:Bool) (vP:Nat):List Fn->List ARow
 | []=>[.cells 0 [.int .i64 0,.int .i64 0,.int .i64 0,.sl true []],.cells 0 [cY L,.int .i64 a,.int .i64 l,.int .i64 27,.int .i64 pn,.int .i64 0,.sl true [],.int .i64 0,.bool con]]
 | [f0]=>[.cells 0 [.int .i64 0,.int .i64 0,.int .i64 0,.sl true []],.cells 0 [cY L,.int .i64 a,.int .i64 l,.int .i64 27,.int .i64 pn,.int .i64 0,.osl 3 vP 0 1 4 false,.int .i64 0,.bool con],f0.row,.cells vP (f0.cells 2)]
 | [f0,f1]=>[.cells 0 [.int .i64 0,.int .i64 0,.int .i64 0,.sl true []],.cells 0 [cY L,.int .i64 a,.int .i64 l,.int .i64 27,.int .i64 pn,.int .i64 0,.osl 3 vP 0 2 4 false,.int .i64 0,.bool con],f0.row,.cells vP (f0.cells 2++f1.cells 4),f1.row]
 |f0::f1::f2::_=>[.cells 0 [.int .i64 0,.int .i64 0,.int .i64 0,.sl true []],.cells 0 [cY L,.int .i64 a,.int .i64 l,.int .i64 27,.int .i64 pn,.int .i64 0,.osl 3 vP 0 3 4 false,.int .i64 0,.bool con],f0.row,.cells vP (f0.cells 2++(f1.cells 4++f2.cells 5)),f1.row,f2.row]
theorem Fn.row4 {f:Fn} (h:f.wf) {k n m:AV} {v:AV} (hc:NodeV 12 [k,n,m,v]):ARow.cells f.v (List.take (f.q*4) f.ks.flatten++[k,n,m,v]++List.drop (f.q*4+4) f.ks.flatten)=(f.body [k,n,m,v]).row:=by
 have:=Fn.body_row h hc
 unfold gK at this
 simp only [Fn.row]
 rw [<- this]
 rfl
theorem cU {r v sz:Nat} {e:List AV} {es:List (List AV)}:rv r v sz (es++[e])=.osl r v 0 (es.length+1) sz false:=by simp [rv]
theorem cE {v:Nat} {e:List AV} {es:List (List AV)}:eX v (es++[e])=.cells v (es++[e]).flatten:=by simp [eX]
def blk:List AV:=[.int .i64 13,.int .i64 0,.int .i64 0,.sl true []]
theorem cF:oR (Value.agg #[Value.int IntKind.i64 0,Value.int IntKind.i64 0,Value.int IntKind.i64 0,Value.slice none 0 0])=.agg [.int .i64 0,.int .i64 0,.int .i64 0,.sl true []]:=by kernel_rfl
theorem aBg:NodeV 12 blk:=(aCd 13 0).up (by decide)
theorem aAI {pa:Nat} {app:List (List AV)} {v:Nat} {b:Bool} (h1:pa<=app.length) (h2:app.length<=5) (h3:∀ e∈app,NodeV 2 e):(Fn.mk v b pa app.length (app++[blk])).wf:=by
 refine ⟨by simp,h1,by simp only;omega,fun e he=>?_⟩
 rcases bo.1 he with he|he
 .exact (h3 e he).up (by decide)
 .rw [bd.1 he];exact aBg
def Lay (x:MX) (vP:Nat):List Fn->Prop
 | [f0]=>x.kv=.osl 3 vP 0 1 4 false/\x.A2=f0.row/\x.A3=.cells vP (f0.cells 2)/\x.A4=.dead/\x.A5=.dead
 | [f0,f1]=>x.kv=.osl 3 vP 0 2 4 false/\x.A2=f0.row/\x.A3=.cells vP (f0.cells 2++f1.cells 4)/\x.A4=f1.row/\x.A5=.dead
 | [f0,f1,f2]=>x.kv=.osl 3 vP 0 3 4 false/\x.A2=f0.row/\x.A3=.cells vP (f0.cells 2++(f1.cells 4++f2.cells 5))/\x.A4=f1.row/\x.A5=f2.row
 |_=>False
theorem Lay.at {x:MX} {vP:Nat} {fs:List Fn} (h:Lay x vP fs):∃ c3,x.A3=.cells vP c3/\c3.length=fs.length*4/\x.kv=.osl 3 vP 0 fs.length 4 false/\1<=fs.length/\fs.length<=3/\∀ (j:Nat) (f:Fn),fs[j]? =some f->∃ r tl,t7 x r f/\c3.drop (j*4)=f.cells r++tl/\∀ f':Fn,f'.v=f.v->f'.b=f.b->f'.p=f.p->f'.q=f.q->Lay (x.setRow r f'.row) vP (fs.set j f'):=by
 obtain ⟨L,pk,pn,pm,F,kv,con,A2,A3,A4,A5⟩:=x
 rcases fs with _|⟨f0,_|⟨f1,_|⟨f2,_|⟨f3,tl⟩⟩⟩⟩
 .exact h.elim
 .obtain ⟨h1,h2,h3,h4,h5⟩:=h
  simp only at h1 h2 h3 h4 h5
  subst h1 h2 h3 h4 h5
  refine ⟨_,rfl,rfl,rfl,by simp,by simp,fun j f hj=>?_⟩
  match j,hj with
  |0,hj=>
   cases hj
   refine ⟨2,[],.inl ⟨rfl,rfl⟩,rfl,fun f' e1 e2 e3 e4=>⟨rfl,rfl,?_,rfl,rfl⟩⟩
   simp only [MX.setRow,if_true,Fn.cells,e1,e2,e3,e4]
  |j+1,hj=>simp at hj
 .obtain ⟨h1,h2,h3,h4,h5⟩:=h
  simp only at h1 h2 h3 h4 h5
  subst h1 h2 h3 h4 h5
  refine ⟨_,rfl,rfl,rfl,by simp,by simp,fun j f hj=>?_⟩
  match j,hj with
  |0,hj=>
   cases hj
   refine ⟨2,_,.inl ⟨rfl,rfl⟩,rfl,fun f' e1 e2 e3 e4=>⟨rfl,rfl,?_,rfl,rfl⟩⟩
   simp only [MX.setRow,if_true,Fn.cells,e1,e2,e3,e4]
  |1,hj=>
   cases hj
   refine ⟨4,[],.inr (.inl ⟨rfl,rfl⟩),rfl,fun f' e1 e2 e3 e4=>⟨rfl,rfl,?_,rfl,rfl⟩⟩
   simp only [MX.setRow,if_true,if_false,Fn.cells,e1,e2,e3,e4,Nat.reduceEqDiff]
  |j+2,hj=>simp at hj
 .obtain ⟨h1,h2,h3,h4,h5⟩:=h
  simp only at h1 h2 h3 h4 h5
  subst h1 h2 h3 h4 h5
  refine ⟨_,rfl,rfl,rfl,by simp,by simp,fun j f hj=>?_⟩
  match j,hj with
  |0,hj=>
   cases hj
   refine ⟨2,_,.inl ⟨rfl,rfl⟩,rfl,fun f' e1 e2 e3 e4=>⟨rfl,rfl,?_,rfl,rfl⟩⟩
   simp only [MX.setRow,if_true,Fn.cells,e1,e2,e3,e4]
  |1,hj=>
   cases hj
   refine ⟨4,_,.inr (.inl ⟨rfl,rfl⟩),rfl,fun f' e1 e2 e3 e4=>⟨rfl,rfl,?_,rfl,rfl⟩⟩
   simp only [MX.setRow,if_true,if_false,Fn.cells,e1,e2,e3,e4,Nat.reduceEqDiff]
  |2,hj=>
   cases hj
   refine ⟨5,[],.inr (.inr ⟨rfl,rfl⟩),rfl,fun f' e1 e2 e3 e4=>⟨rfl,rfl,?_,rfl,rfl⟩⟩
   simp only [MX.setRow,if_true,if_false,Fn.cells,e1,e2,e3,e4,Nat.reduceEqDiff]
  |j+3,hj=>simp at hj
 .exact h.elim
theorem Lay.withF {L:List Int} {pk pn pm F F':Int} {kv:AV} {con:Bool} {A2 A3 A4 A5:ARow} {vP:Nat} {fs:List Fn} (h:Lay ⟨L,pk,pn,pm,F,kv,con,A2,A3,A4,A5⟩ vP fs):Lay ⟨L,pk,pn,pm,F',kv,con,A2,A3,A4,A5⟩ vP fs:=by
 rcases fs with _|⟨f0,_|⟨f1,_|⟨f2,_|⟨f3,tl⟩⟩⟩⟩<;>exact h
theorem SQ (a b:Int) (h: -2000<=a/\a<=2000): -2000<=a.tdiv b/\a.tdiv b<=2000:=by
 have h1:(a.tdiv b).natAbs<=a.natAbs:=by
  rw [Int.natAbs_tdiv]
  exact Nat.div_le_self _ _
 omega
theorem JO (al:Int) (n i:Nat) (h: -1200<=al/\al<=1200) (h1:1<=n) (h3:n<=3): -9000<=G7.leftOf al n i/\G7.leftOf al n i<=9000:=by
 have:=SQ al ((n:Int)+1) (by omega)
 rw [G7.leftOf]
 generalize al.tdiv ((n:Int)+1)=q at this
 rw [bC (z:=q) (by omega) (by omega)]
 have hm: -4000<=((n:Int) - 1)*q/\((n:Int) - 1)*q<=4000:=by
  have:(n:Int) - 1=0\/(n:Int) - 1=1\/(n:Int) - 1=2:=by omega
  rcases this with e|e|e<;>rw [e]<;>omega
 split
 .rw [bC (z:=((n:Int) - 1)*q) (by omega) (by omega),bC (by omega) (by omega)]
  omega
 .omega
theorem Lay.ok {x:MX} {vP:Nat} {fs:List Fn} (h:Lay x vP fs) (hL:∀ y∈x.L,bR y) (hcn:x.con=true->0<x.pn) (hw:∀ f∈fs,f.wf) (i:Nat) (hF:x.F=i) (hi:i<fs.length):x.ok:=by
 obtain ⟨L,pk,pn,pm,F,kv,con,A2,A3,A4,A5⟩:=x
 simp only at hF
 subst hF
 refine ⟨hL,hcn,?_⟩
 rcases fs with _|⟨f0,_|⟨f1,_|⟨f2,_|⟨f3,tl⟩⟩⟩⟩
 .exact h.elim
 .obtain ⟨h1,h2,h3,h4,h5⟩:=h
  simp only at h1 h2 h3 h4 h5
  subst h1 h2 h3 h4 h5
  simp only [af,ak] at hi
  exact .one f0 _ _ _ _ (hw f0 (by simp)) (by show (i:Int)=0;omega) rfl rfl
 .obtain ⟨h1,h2,h3,h4,h5⟩:=h
  simp only at h1 h2 h3 h4 h5
  subst h1 h2 h3 h4 h5
  simp only [af,ak] at hi
  exact .two f0 f1 _ _ _ (hw f0 (by simp)) (hw f1 (by simp)) (by show (i:Int)=0\/(i:Int)=1;omega) rfl
 .obtain ⟨h1,h2,h3,h4,h5⟩:=h
  simp only at h1 h2 h3 h4 h5
  subst h1 h2 h3 h4 h5
  simp only [af,ak] at hi
  exact .three f0 f1 f2 _ _ (hw f0 (by simp)) (hw f1 (by simp)) (hw f2 (by simp)) (by show (i:Int)=0\/(i:Int)=1\/(i:Int)=2;omega)
 .exact h.elim
def FnR (f:Fn) (d:Nat × List T):Prop:=f.wf/\f.p=d.1/\f.q=d.2.length/\(f.ks.take f.q).map wkL=T.encs d.2
def FRx (fs:List Fn) (ds:List (Nat × List T)):Prop:=fs.length=ds.length/\∀ (j:Nat) (f:Fn) (d:Nat × List T),fs[j]? =some f->ds[j]? =some d->FnR f d
theorem FRx.wf {fs:List Fn} {ds:List (Nat × List T)} (h:FRx fs ds):∀ f∈fs,f.wf:=fun f hf=>by
 obtain ⟨j,hj⟩:=je hf
 have hl:=(aq.1 hj).1
 obtain ⟨d,hd⟩:∃ d,ds[j]? =some d:=⟨_,ah (by have:=h.1;omega)⟩
 exact (h.2 j f d hj hd).1
theorem FnR.body {f:Fn} {d:Nat × List T} (h:FnR f d) {c:List AV} (hc:NodeV 12 c):FnR (f.body c) d:=by
 obtain ⟨h1,h2,h3,h4⟩:=h
 refine ⟨f.body_wf h1 hc,h2,h3,?_⟩
 have:(f.ks.take f.q).length=f.q:=by rw [cr,h1.1];omega
 show ((f.ks.take f.q++[c]).take f.q).map wkL=_
 rw [List.take_left' this,h4]
theorem FnR.full {f:Fn} {d:Nat × List T} (h:FnR f d) {c:List AV} {b:T} (hc:wkL c=T.enc b):(f.body c).ks.map wkL=T.encs (d.2++[b]):=by
 show (f.ks.take f.q++[c]).map wkL=_
 rw [dq,h.2.2.2,T.encs_map,T.encs_map,dq]
 simp [hc]
theorem FnR.new {pa v:Nat} {b:Bool} {ts:List T} (h1:pa<=ts.length) (h2:ts.length<=5) (h3:∀ t∈ts,G7.TyV t):FnR ⟨v,b,pa,(T.encs ts).length,T.encs ts++[blk]⟩ (pa,ts):=by
 have hl:=T.encs_len ts
 refine ⟨aAI (by omega) (by omega) (KH fun t ht=>aAa (h3 t ht)),rfl,hl,?_⟩
 show ((T.encs ts++[blk]).take (T.encs ts).length).map wkL=_
 rw [jg,hZ]
theorem FRx.snoc {fs:List Fn} {ds:List (Nat × List T)} {f:Fn} {d:Nat × List T} (h:FRx fs ds) (hf:FnR f d):FRx (fs++[f]) (ds++[d]):=by
 have hl:=h.1
 refine ⟨by simp [h.1],fun j f' d' h1 h2=>?_⟩
 by_cases hj:j<fs.length
 .rw [eo hj] at h1
  rw [eo (by omega)] at h2
  exact h.2 j f' d' h1 h2
 .have:=(aq.1 h1).1
  simp only [an,am] at this
  obtain rfl:j=fs.length:=by omega
  rw [List.getElem?_concat_length] at h1
  rw [hl,List.getElem?_concat_length] at h2
  cases h1;cases h2;exact hf
theorem FRx.set {fs:List Fn} {ds:List (Nat × List T)} {i:Nat} {f:Fn} {d:Nat × List T} (h:FRx fs ds) (hd:ds[i]? =some d) (hf:FnR f d):FRx (fs.set i f) ds:=by
 refine ⟨by simp [h.1],fun j f' d' h1 h2=>?_⟩
 by_cases hj:j=i
 .subst hj
  have:=(aq.1 hd).1
  rw [ib (by have:=h.1;omega)] at h1
  rw [hd] at h2
  cases h1;cases h2;exact hf
 .rw [jd (fun e=>hj e.symm)] at h1
  exact h.2 j f' d' h1 h2
theorem S6 {x:MX} (hok:x.ok) {i n vP r:Nat} {bP:Bool} {fn:Fn} {c3 tl:List AV} (hF:x.F=i) (hkv:x.kv=.osl 3 vP 0 n 4 bP) (hi:i<n) (hw:fn.wf) (ha:t7 x r fn) (hA3:x.A3=.cells vP c3) (hd:c3.drop (i*4)=fn.cells r++tl):ZQ x r fn:=by
 obtain ⟨L,pk,pn,pm,F,kv,con,A2,A3,A4,A5⟩:=x
 simp only at hF hkv hA3
 subst hF hkv hA3
 have e1:IntKind.i64.wrap (((fn.q+1:Nat):Int) - 1)=(fn.q:Int):=by
  have:=hw.2.2.1
  rw [dP (by omega) (by omega)];omega
 have g1:fn.q<=fn.q+1:=Nat.le_succ _
 have g2:(fn.q==fn.q+1)=false:=by simp
 have hd3:c3.drop (i*4+3)=.osl r fn.v 0 (fn.q+1) 4 fn.b::tl:=by rw [<- ji,hd];rfl
 simp only [Fn.cells,ar,ba] at hd
 simp only [t7] at ha
 rcases ha with ⟨rfl,rfl⟩|⟨rfl,rfl⟩|⟨rfl,rfl⟩
 all_goals
  refine N8 hok.fr Tryz.func142 rfl (by kernel_rfl) (by simp [Tryz.ntmps142]) rfl rfl fun at0 left=>?_
  simp only [Tryz.ntmps142,aK,Nat.reduceAdd,MX.row,Fn.row]
  repeat' (first|(refine cC ?_;simp only [wS,simprocAttr,e1,g1,g2,hi,hd,hd3,Fn.row,or_true,da,Nat.zero_mul,Bool.or_self])|refine aH|fail)
  refine aD rfl ⟨?_,?_⟩
  .simp only [wS,simprocAttr,Fn.row,MX.row,e1]
  .refine ⟨?_,?_,?_,?_,?_⟩<;>(simp only [wS,simprocAttr,Fn.row,MX.row];try exact rfl)
theorem Lay.env {x:MX} {vP:Nat} {fs:List Fn} {ds:List (Nat × List T)} (h:Lay x vP fs) (hR:FRx fs ds) (hok:x.ok) (i:Nat) (hF:x.F=i) (hi:i<fs.length) {fn:Fn} (hfn:fs[i]? =some fn) {r:Nat} {c3 tl:List AV} (ha:t7 x r fn) (hA3:x.A3=.cells vP c3) (hd:c3.drop (i*4)=fn.cells r++tl):EnvOK x ⟨x.L,ds,i,x.con,x.pn⟩ r fn/\NO x ⟨x.L,ds,i,x.con,x.pn⟩:=by
 obtain ⟨c3',g1,g2,g3,g4,g5,g6⟩:=h.at
 obtain rfl:c3=c3':=by rw [hA3] at g1;cases g1;rfl
 have hl:=hR.1
 obtain ⟨d,hdd⟩:∃ d,ds[i]? =some d:=⟨_,ah (by omega)⟩
 obtain ⟨q1,q2,q3,q4⟩:=hR.2 i fn d hfn hdd
 have hv:(⟨x.L,ds,i,x.con,x.pn⟩:G7.Env).vars=d.2:=by rw [G7.Env.vars];simp only [hdd]
 refine ⟨⟨rfl,rfl,⟨q1,ha,S6 hok hF g3 hi q1 ha hA3 hd⟩,by rw [hv];exact q3,by rw [hv];exact q4⟩,⟨rfl,rfl,rfl,fs.length,vP,false,c3,g3,hA3,g2,g4,g5,hl.symm,fun f hf=>?_⟩⟩
 obtain ⟨fn',hfn'⟩:∃ x,fs[f]? =some x:=⟨_,ah hf⟩
 obtain ⟨d',hd'⟩:∃ x,ds[f]? =some x:=⟨_,ah (by omega)⟩
 obtain ⟨r',tl',k1,k2,_⟩:=g6 f fn' hfn'
 obtain ⟨w1,w2,w3,w4⟩:=hR.2 f fn' d' hfn' hd'
 exact ⟨r',fn',tl',d',hd',w1,k1,k2,w2,w3,w4⟩
theorem Lay.fin [i6] {N:Nat} {s:AS} {box:List AV} {x:MX} {vP:Nat} {fs:List Fn} (h:Lay x vP fs) (hw:∀ f∈fs,f.wf) {a l:Int} (hs:s.h=[.cells 0 box,x.row a l,x.A2,x.A3,x.A4,x.A5]) (h4:s.get 4=.ptr 0 0 0) (h5:s.get 5=.ptr 1 0 0):∃ Y Z:ARow,
  Ref G0 N 0 s ⟨eJ [(4,.ptr 0 0 0),(5,.ptr 1 0 0)],[.cells 0 box,.cells 0 [cY x.L,.int .i64 a,.int .i64 l,.int .i64 x.pk,.int .i64 x.pn,.int .i64 x.pm,.sl false (fs.map Fn.node),.int .i64 x.F,.bool x.con],.dead,.dead,Y,Z]⟩:=by
 obtain ⟨L,pk,pn,pm,F,kv,con,A2,A3,A4,A5⟩:=x
 rcases fs with _|⟨f0,_|⟨f1,_|⟨f2,_|⟨f3,tl⟩⟩⟩⟩
 .exact h.elim
 .obtain ⟨h1,h2,h3,h6,h7⟩:=h
  simp only at h1 h2 h3 h6 h7
  subst h1 h2 h3 h6 h7
  exact ⟨_,_,aCv (hw f0 (by simp)) hs h4 h5⟩
 .obtain ⟨h1,h2,h3,h6,h7⟩:=h
  simp only at h1 h2 h3 h6 h7
  subst h1 h2 h3 h6 h7
  exact ⟨_,_,aCu (hw f0 (by simp)) (hw f1 (by simp)) hs h4 h5⟩
 .obtain ⟨h1,h2,h3,h6,h7⟩:=h
  simp only at h1 h2 h3 h6 h7
  subst h1 h2 h3 h6 h7
  exact ⟨_,_,aCt (hw f0 (by simp)) (hw f1 (by simp)) (hw f2 (by simp)) hs h4 h5⟩
 .exact h.elim
theorem CY:∀ {fs:List Fn} {ds:List (Nat × List T)} {bs:List T},fs.length=ds.length->fs.length=bs.length->(∀ (j:Nat) (f:Fn) (d:Nat × List T) (b:T),fs[j]? =some f->ds[j]? =some d->bs[j]? =some b->f.p=d.1/\f.ks.map wkL=T.encs (d.2++[b]))->(fs.map Fn.node).map wkL=T.encs (List.zipWith G7.funT ds bs)
 | [],[],[],_,_,_=>rfl
 |f::fs,d::ds,b::bs,h1,h2,h=>by
  obtain ⟨g1,g2⟩:=h 0 f d b rfl rfl rfl
  have ih:=CY (fs:=fs) (ds:=ds) (bs:=bs) (by simpa using h1) (by simpa using h2) fun j f d b e1 e2 e3=>h (j+1) f d b (by simpa using e1) (by simpa using e2) (by simpa using e3)
  simp only [ay,List.zipWith_cons_cons,T.encs,ih,G7.funT,T.enc,Fn.node,wkL,AM.wk,gS,g1,g2]
 | [],_::_,_,h,_,_=>by cases h
 | [],[],_::_,_,h,_=>by cases h
 |_::_,[],_,h,_,_=>by cases h
 |_::_,_::_,[],_,h,_=>by cases h
end Go.Proofs.YtggflhbigolakaaGreatDoor
