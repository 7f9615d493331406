import Derived.Test.YtggflhbigolakaaGreatDoorAE
import Derived.Test.YtggflhbigolakaaGreatDoorN2
import Derived.Test.YtggflhbigolakaaGreatDoorSC
import Derived.Test.YtggflhbigolakaaGreatDoorN1
set_option linter.unusedSimpArgs false
namespace Go.Proofs.YtggflhbigolakaaGreatDoor
open Go.AM
attribute [local irreducible] cG bG bI bL bW bZ aQ aV bN
set_option maxRecDepth 100000
abbrev St:=Int × Int
namespace G7
structure Env where
 L:List Int
 fs:List (Nat × List T)
 F:Nat
 con:Bool
 pn:Int
def Env.vars (e:Env):List T:=match e.fs[e.F]? with
 |some f=>f.2
 |none=>[]
def dr (e:Env) (n:Int) (s:St):Int × St:=(sG e.L (IntKind.i64.wrap (IntKind.i64.wrap (s.1+1) - 1)) n,(IntKind.i64.wrap (s.1+1),s.2))
def nd (k n:Int) (es:List T) (s:St):T × St:=(.mk k n 0 es,(s.1,IntKind.i64.wrap (s.2 - 1)))
def pickL (vs:List T) (kind fr:Int):Nat->Nat->Int
 |_,0=> -1
 |i,m+1=>match vs[((fr+(i:Int)).tmod vs.length).toNat]? with
  |some t=>if t.kind=kind then (fr+(i:Int)).tmod vs.length else pickL vs kind fr (i+1) m
  |none=> -1
def pick (e:Env) (kind:Int) (s:St):Int × St:=(pickL e.vars kind (dr e 6 s).1 0 e.vars.length,(dr e 6 s).2)
def field (e:Env) (kind:Int) (s:St):(Int × Int) × St:=match pick e 3 s with
 |(v,s1)=>if v<0 then ((-1,0),s1) else match e.vars[v.toNat]? with
  |some t=>match dr e 3 s1 with
   |(fr,s2)=>(if pickL t.kids kind fr 0 t.kids.length<0 then (-1,0) else (v,pickL t.kids kind fr 0 t.kids.length),s2)
  |none=>((-1,0),s1)
end G7
def rK (x:MX) (f:FuncId) (more:List AV) {β:Type} (val: β->AV) (g:St->β × St):Prop:=∀ rows (a l:Int),MR x rows a l->c8 Tryz.prog G0 f (.ptr 1 0 0::more) rows [1,2,3,4,5] ⟨val (g (a,l)).1,[(1,x.row (g (a,l)).2.1 (g (a,l)).2.2)]⟩
theorem eC {x:MX} {f:FuncId} {fn:Func} {c:Code} {more:List AV} {β:Type} {val: β->AV} {g:St->β × St} (hx:x.frame) (hf:Tryz.prog.funcs[f]? =some fn) (hb:fn.body=some c) (hgo:fR Tryz.prog f=true) (hn:more.length+1<=fn.ntmps) (hmore:aP aE more=true)
  (hbody:∀ at0 left,cG Tryz.prog G0 fn.ntmps 6 c (eR Tryz.prog fn fun v s=>∃ r a l,g (at0,left)=(r,(a,l))/\(v=val r\/AM.wk v=val r)/\aI aE v=true/\MR x s.row a l) ⟨eJ (aK 0 (.ptr 1 0 0::more)),[.dead,x.row at0 left,x.A2,x.A3,x.A4,x.A5]⟩):rK x f more val g:=by
 intro rows at0 left hr
 refine bT [.dead,x.row at0 left,x.A2,x.A3,x.A4,x.A5] bX hf hb hgo (by simpa using hn) hr.get MR.dead ?_ (fun r h=>bJ (gZ (by simp)) (hr.ins hx r h)) ?_ ?_ ?_
 .simp only [aP,aI,af,ak,Nat.reduceAdd,Nat.reduceLT,decide_true,ac]
  exact bE hmore
 .intro r hr h
  replace hr:=aC hr
  simp only [af,ak] at h
  omega
 .intro p hp
  simp at hp
  subst hp
  simp
 .refine jR (hbody at0 left) (mX fun v s=>?_)
  rintro ⟨r,a,l,hg,hv,hi,q⟩
  rw [hg]
  exact ⟨hv,GD hi,fun r h=>⟨hr.upd q r h,q.ins hx r h⟩⟩
theorem aW {n:Nat} {d:Option Tmp} {rest:List nA} {m:Option eV} {s:AS} {K:Option eV->AS->Prop} {x:MX} {f:FuncId} {more:List AV} {β:Type} {val: β->AV} {g:St->β × St} (h:rK x f more val g) (a l:Int) (hr:MR x s.row a l)
  (hk:∀ r a1 l1,g (a,l)=(r,(a1,l1))->bG Tryz.prog G0 n K rest (lM m [1,2,3,4,5] [1]) ((s.wr [(1,x.row a1 l1)]).put d (val r))):bI Tryz.prog G0 n K d rest m s f (.ptr 1 0 0::more):=
 cM (h s.row a l hr) (hk _ _ _ rfl)
theorem y7 {x:MX} {a l at0 left:Int} {β:Type} {val: β->AV} {g:St->β × St} {fn:Func} {s:AS} {t:Tmp} {v:AV} {r: β} (h:fn.results= #[.tmp t]) (hl:s.get t=v) (hr:MR x s.row a l) (hi:aI aE v=true) (hg:g (at0,left)=(r,(a,l))) (hv:v=val r\/AM.wk v=val r):
  eR Tryz.prog fn (fun v s=>∃ r a l,g (at0,left)=(r,(a,l))/\(v=val r\/AM.wk v=val r)/\aI aE v=true/\MR x s.row a l) .ret s:=aD h (by rw [hl];exact ⟨r,a,l,hg,hv,hi,hr⟩)
theorem y6 {x:MX} {a l at0 left:Int} {β:Type} {val: β->AV} {g:St->β × St} {fn:Func} {s:AS} {t u:Tmp} {v:AV} {r: β} (h:fn.results= #[.tmp t,.tmp u]) (hl: .tup [s.get t,s.get u]=v) (hr:MR x s.row a l) (hi:aI aE v=true) (hg:g (at0,left)=(r,(a,l))) (hv:v=val r\/AM.wk v=val r):
  eR Tryz.prog fn (fun v s=>∃ r a l,g (at0,left)=(r,(a,l))/\(v=val r\/AM.wk v=val r)/\aI aE v=true/\MR x s.row a l) .ret s:=eS h (by rw [hl];exact ⟨r,a,l,hg,hv,hi,hr⟩)
theorem eM {x:MX} {a l at0 left:Int} {β:Type} {val: β->AV} {g:St->β × St} {fn:Func} {s:AS} {t:Tmp} {ty:TypeId} {v:AV} {r: β} (h:fn.results= #[.cell t ty]) (hl:iC Tryz.prog ty (s.get t) s.row=some v) (hr:MR x s.row a l) (hi:aI aE v=true) (hg:g (at0,left)=(r,(a,l))) (hv:v=val r\/AM.wk v=val r):
  eR Tryz.prog fn (fun v s=>∃ r a l,g (at0,left)=(r,(a,l))/\(v=val r\/AM.wk v=val r)/\aI aE v=true/\MR x s.row a l) .ret s:=dB h hl ⟨r,a,l,hg,hv,hi,hr⟩
def vI (z:Int):AV:=.int .i64 z
def vT (t:T):AV:=.agg (T.enc t)
def vF (p:Int × Int):AV:=.tup [.int .i64 p.1,.int .i64 p.2]
structure EnvOK (x:MX) (e:G7.Env) (r:Nat) (f:Fn):Prop where
 L:x.L=e.L
 con:x.con=e.con
 va:aBn x r f
 q:f.q=e.vars.length
 ks:(f.ks.take f.q).map wkL=T.encs e.vars
theorem EnvOK.get {x:MX} {e:G7.Env} {r:Nat} {f:Fn} (h:EnvOK x e r f) {j:Nat} (hj:j<f.q):∃ k n m b es tl ts,e.vars[j]? =some (.mk k n m ts)/\f.ks[j]? =some [.int .i64 k,.int .i64 n,.int .i64 m,.sl b es]/\es.map wkL=T.encs ts/\(∀ c∈es,NodeV 12 c)/\f.ks.flatten.drop (j*4)=.int .i64 k::.int .i64 n::.int .i64 m::.sl b es::tl:=by
 obtain ⟨k,n,m,b,es,tl,h1,h2,h3,h4⟩:=UY h.va.1 (j:=j) (by omega)
 have hks:=h.ks
 rw [T.encs_map] at hks
 have hg:((f.ks.take f.q).map wkL)[j]? =some (wkL [.int .i64 k,.int .i64 n,.int .i64 m,.sl b es]):=by rw [bh,ep,if_pos hj,h1];rfl
 rw [hks,bh] at hg
 obtain ⟨t,ht,he⟩:=bw.1 hg
 obtain ⟨k',n',m',ts⟩:=t
 simp only [T.enc,wkL,AM.wk,gS,de,AV.int.injEq,AV.sl.injEq,true_and,and_true] at he
 obtain ⟨rfl,rfl,rfl,he⟩:=he
 exact ⟨k',n',m',b,es,tl,ts,ht,h1,he.symm,h3,h4⟩
theorem EnvOK.small {x:MX} {e:G7.Env} {r:Nat} {f:Fn} (h:EnvOK x e r f) {j:Nat} (hj:j<f.q) {k n m:Int} {es:List (List AV)} {ts:List T} (hv:e.vars[j]? =some (.mk k n m ts)) (hes:es.map wkL=T.encs ts):es.length<=1000000000:=by
 obtain ⟨k',n',m',b,es',tl,ts',h1,h2,h3,_⟩:=h.get hj
 rw [hv] at h1
 cases h1
 obtain ⟨_,_,_,_,_,_,g1,g2,_,_⟩:=UY h.va.1 (j:=j) (by omega)
 rw [h2] at g1
 cases g1
 have:=congrArg List.length (hes.trans h3.symm)
 rw [bp,bp] at this
 omega
theorem dT {x:MX} {e:G7.Env} (hL:x.L=e.L) (hx:x.frame) (n:Int) (hn:0<n):rK x 102 [.int .i64 n] vI (G7.dr e n):=by
 refine eC hx Tryz.func102 rfl (by kernel_rfl) (by simp [Tryz.ntmps102]) rfl fun at0 left=>?_
 simp only [Tryz.ntmps102,aK,Nat.reduceAdd,MX.row]
 repeat' (first|(refine cC ?_;refine aA)|refine aM|refine bO bX (v7 x.L (IntKind.i64.wrap (IntKind.i64.wrap (at0+1) - 1)) n hx.L (by omega)) (gR ?_))
 refine y7 (x:=x) (at0:=at0) (left:=left) (val:=vI) (g:=G7.dr e n) (a:=IntKind.i64.wrap (at0+1)) (l:=left) rfl (by refine aA;exact rfl) bS rfl (by simp only [G7.dr];exact rfl) (.inl (by rw [hL];rfl))
theorem gN {x:MX} (hx:x.frame) (k n:Int) (b:Bool) (es:List (List AV)) (ts:List T) (hes:es.map wkL=T.encs ts) (ht:cQ aE es=true):rK x 125 [.int .i64 k,.int .i64 n,.sl b es] vT (G7.nd k n ts):=by
 refine eC hx Tryz.func125 rfl (by kernel_rfl) (by simp [Tryz.ntmps125]) (by simpa [aP,aI] using ht) fun at0 left=>?_
 simp only [Tryz.ntmps125,aK,Nat.reduceAdd,MX.row]
 refine xC
 refine eM (x:=x) (at0:=at0) (left:=left) (val:=vT) (g:=G7.nd k n ts) (a:=at0) (l:=IntKind.i64.wrap (left - 1)) (v:=.agg [.int .i64 k,.int .i64 n,.int .i64 0,.sl b es]) rfl aZ bS (by simp only [aI,aP,ht,ai]) rfl (.inr ?_)
 simp only [AM.wk,wkL,gS,hes,vT,T.enc]
theorem yN {x:MX} {e:G7.Env} {r:Nat} {f:Fn} (hx:x.ok) (h:EnvOK x e r f) (kind:Int):rK x 135 [.int .i64 kind] vI (G7.pick e kind):=by
 obtain ⟨hw,ha,hv⟩:=h.va
 have hA:=OA ha
 have kd:=dT h.L hx.fr 6 (by decide)
 refine eC hx.fr Tryz.func135 rfl (by kernel_rfl) (by simp [Tryz.ntmps135]) rfl fun at0 left=>?_
 simp only [Tryz.ntmps135,aK,Nat.reduceAdd,MX.row]
 refine aF
 refine cM (hv _ at0 left ?_) ?_
 .refine ⟨?_,?_,?_,?_,?_⟩<;>((try simp only [wS,simprocAttr,MX.row]);try exact rfl)
 refine aA
 refine aF
 refine aW kd at0 left ?_ ?_
 .refine ⟨?_,?_,?_,?_,?_⟩<;>((try simp only [wS,simprocAttr,MX.row]);try exact rfl)
 rintro fr a1 l1 hdr
 have hb:=B1 e.L (IntKind.i64.wrap (IntKind.i64.wrap (at0+1) - 1)) 6 (by decide)
 have hfr:fr=sG e.L (IntKind.i64.wrap (IntKind.i64.wrap (at0+1) - 1)) 6:=by simp only [G7.dr,db] at hdr;exact hdr.1.symm
 rw [<- hfr] at hb
 obtain ⟨hf1,hf2⟩:=hb
 have hpk:∀ z,G7.pickL e.vars kind fr 0 e.vars.length=z->G7.pick e kind (at0,left)=(z,(a1,l1)):=fun z hz=>by rw [G7.pick,hdr];simp only;rw [hz]
 rw [<- h.q] at hpk
 simp only [wS,simprocAttr,vI,MX.row]
 refine aF
 refine aJ (α:={k:Nat // k<=f.q/\G7.pickL e.vars kind fr 0 f.q=G7.pickL e.vars kind fr k (f.q - k)}) (fun k=>[(0,.ptr 1 0 0),(1,.int .i64 kind),(5,.osl r f.v 0 f.q 4 false),(6,.int .i64 fr),(7,.int .i64 (k.1:Nat))]) (fun _=>[.dead,x.row a1 l1,x.A2,x.A3,x.A4,x.A5]) (fun k=>f.q - k.1) ⟨0,az _,rfl⟩ (Weak.ref ⟨?_,.inl ?_⟩) ?_
 .exact aZ
 .exact aZ
 .rintro ⟨k,hk,hinv⟩ K hK
  try simp only at hk hinv
  have hq:=hw.2.2.1
  by_cases hlt:k<f.q
  .have c1:decide (((k:Nat):Int)<((f.q:Nat):Int))=true:=by simp;omega
   have hq0:((f.q:Nat):Int)≠0:=by omega
   have e1:IntKind.i64.wrap (fr+(k:Int))=fr+k:=bC (by omega) (by omega)
   obtain ⟨j,e2,hj⟩:=OR (a:=fr+(k:Int)) (q:=f.q) (by omega) (by omega)
   obtain ⟨kd',nn,mm,b,es,tl,ts,hvt,_,_,_,hd⟩:=h.get hj
   have e3:=aO (k:=k) hlt (by omega)
   have hstep:G7.pickL e.vars kind fr k (f.q - k)=if kd'=kind then (j:Int) else G7.pickL e.vars kind fr (k+1) (f.q - (k+1)):=by
    rw [show f.q - k=(f.q - (k+1))+1 by omega,G7.pickL,<- h.q,e2]
    simp only [ax,hvt,T.kind]
    by_cases hkk:kd'=kind<;>simp [hkk]
   by_cases hkk:kd'=kind
   .have c2:(kd'==kind)=true:=by simp [hkk]
    rw [if_pos hkk] at hstep
    repeat' (first|(refine cC ?_;simp only [wS,simprocAttr,MX.row,e1,e2,e3,hq0,hj,hA,Fn.row,hd,c1,c2])|refine aM|fail)
    refine y7 (x:=x) (at0:=at0) (left:=left) (val:=vI) (g:=G7.pick e kind) (a:=a1) (l:=l1) rfl (by refine aA;exact rfl) bS rfl (hpk (j:Int) (by rw [hinv,hstep])) (.inl rfl)
   .have c2:(kd'==kind)=false:=by simp [hkk]
    rw [if_neg hkk] at hstep
    repeat' (first|(refine cC ?_;simp only [wS,simprocAttr,MX.row,e1,e2,e3,hq0,hj,hA,Fn.row,hd,c1,c2])|refine aM|fail)
    refine hK.go ⟨k+1,hlt,hinv.trans hstep⟩ (Weak.ref ⟨?_,.inl ?_⟩) (by simp only;omega)
    .exact aZ
    .simp only [wS,simprocAttr,hA,Fn.row];try exact rfl
  .have c1:decide (((k:Nat):Int)<((f.q:Nat):Int))=false:=by simp;omega
   rw [show f.q - k=0 by omega,G7.pickL] at hinv
   repeat' (first|(refine cC ?_;simp only [wS,simprocAttr,MX.row,hA,Fn.row,c1])|refine aM|fail)
   refine y7 (x:=x) (at0:=at0) (left:=left) (val:=vI) (g:=G7.pick e kind) (a:=a1) (l:=l1) rfl (by refine aA;exact rfl) bS rfl (hpk (-1) hinv) (.inl rfl)
end Go.Proofs.YtggflhbigolakaaGreatDoor
