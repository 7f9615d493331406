import Derived.Test.YtggflhbigolakaaGreatDoorVA
import Derived.Test.YtggflhbigolakaaGreatDoorHS
set_option linter.unusedSimpArgs false
namespace Go.Proofs.YtggflhbigolakaaGreatDoor
open Go.AM
attribute [local irreducible] cG bG bI bL bW bZ aQ aV bN
set_option maxRecDepth 100000
def W8:ARow:=.cells 0 [.fn (.func 121) [] [.ptr 5 0 0,.ptr 6 0 0]]
def six:Nat->Bool:=fun r=>([0,1,2,3,5,6]:List Nat).contains r
structure V6 (OC:List AV) (fc:FuncId) (caps:List AV) (rows:Nat->ARow) (s:Bool × List Bool):Prop where
 v:VR OC rows s
 r5:rows 5=.cells 0 [.fn (.func fc) [] caps]
 r6:rows 6=W8
theorem T6 {m:Nat} (hm:7<=m):∀ r,six r=true->decide (r<m)=true:=fun r h=>by simp [six] at h ⊢;omega
theorem V6.ins {OC:List AV} {fc:FuncId} {caps:List AV} {rows:Nat->ARow} {s:Bool × List Bool} (ho:aP aE OC=true) (hc:aP BT caps=true) (h:V6 OC fc caps rows s):∀ r∈([0,1,2,3,5,6]:List Nat),aG six (rows r)=true:=by
 have h46:∀ r,BT r=true->six r=true:=fun r h=>by simp [BT] at h;simp [six];omega
 intro r hr
 replace hr:=aC hr
 rcases hr with rfl|rfl|rfl|rfl|rfl|rfl
 .rw [h.v.r0];exact bE ho
 .rw [h.v.r1];exact UK _ _
 .rw [h.v.r2];rfl
 .rw [h.v.r3];rfl
 .rw [h.r5];simp only [aG,aP,aI,ab,ac];exact b7 h46 hc
 .rw [h.r6];rfl
theorem LS {OC:List AV} {fc:FuncId} {caps:List AV} {f:FuncId} {fn:Func} {c:Code} {args:List AV} {s s':Bool × List Bool} (ho:aP aE OC=true) (hc:aP BT caps=true) (hf:Tryz.prog.funcs[f]? =some fn) (hb:fn.body=some c) (hgo:fR Tryz.prog f=true) (hn:args.length<=fn.ntmps) (hargs:aP six args=true)
  (hbody:cG Tryz.prog G0 fn.ntmps 7 c (eR Tryz.prog fn fun v t=>v=.tup []/\V6 OC fc caps t.row s') ⟨eJ (aK 0 args),[.cells 0 OC,LL s.2,MB s.1,VQ,.dead,.cells 0 [.fn (.func fc) [] caps],W8]⟩):∀ rows,V6 OC fc caps rows s->c8 Tryz.prog G0 f args rows [0,1,2,3,5,6] ⟨.tup [],[(1,LL s'.2),(2,MB s'.1)]⟩:=by
 intro rows h
 refine bT [.cells 0 OC,LL s.2,MB s.1,VQ,.dead,.cells 0 [.fn (.func fc) [] caps],W8] bX hf hb hgo hn ?_ ?_ (b7 (T6 (by simp)) hargs) (fun r hr=>bJ (T6 (by simp)) (h.ins ho hc r hr)) ?_ ?_ ?_
 .intro r hr
  replace hr:=aC hr
  rcases hr with rfl|rfl|rfl|rfl|rfl|rfl
  .exact h.v.r0.symm
  .exact h.v.r1.symm
  .exact h.v.r2.symm
  .exact h.v.r3.symm
  .exact h.r5.symm
  .exact h.r6.symm
 .intro r hr
  match r,hr with
  |0,hr=>exact absurd (by simp) hr
  |1,hr=>exact absurd (by simp) hr
  |2,hr=>exact absurd (by simp) hr
  |3,hr=>exact absurd (by simp) hr
  |4,_=>simp
  |5,hr=>exact absurd (by simp) hr
  |6,hr=>exact absurd (by simp) hr
  |r+7,_=>simp
 .intro r hr h2
  replace hr:=aC hr
  simp only [af,ak] at h2
  omega
 .intro p hp
  simp at hp
  rcases hp with rfl|rfl<;>simp
 .refine jR hbody (mX fun v t=>?_)
  rintro ⟨rfl,g⟩
  refine ⟨.inl rfl,rfl,fun r hr=>⟨?_,g.ins ho hc r hr⟩⟩
  replace hr:=aC hr
  rcases hr with rfl|rfl|rfl|rfl|rfl|rfl
  .rw [g.v.r0];simp [upd,h.v.r0]
  .rw [g.v.r1];simp [upd]
  .rw [g.v.r2];simp [upd]
  .rw [g.v.r3];simp [upd,h.v.r3]
  .rw [g.r5];simp [upd,h.r5]
  .rw [g.r6];simp [upd,h.r6]
theorem KV {n:Nat} {d:Option Tmp} {rest:List nA} {m:Option eV} {s:AS} {K:Option eV->AS->Prop} {OC:List AV} {fc:FuncId} {caps:List AV} {f:FuncId} {args:List AV} {q q':Bool × List Bool} (h:∀ rows,V6 OC fc caps rows q->c8 Tryz.prog G0 f args rows [0,1,2,3,5,6] ⟨.tup [],[(1,LL q'.2),(2,MB q'.1)]⟩) (hr:V6 OC fc caps s.row q)
  (hk:bG Tryz.prog G0 n K rest (lM m [0,1,2,3,5,6] [1,2]) ((s.wr [(1,LL q'.2),(2,MB q'.1)]).put d (.tup []))):bI Tryz.prog G0 n K d rest m s f args:=by
 unfold bI
 exact ⟨_,_,h s.row hr,hk⟩
set_option maxHeartbeats 4000000 in
theorem aCB {OC:List AV} (ho:aP aE OC=true) {fc:FuncId} {caps:List AV} (hcp:aP BT caps=true) (fr:Bool->Bool) (put:Bool) (hC:∀ (t:T) (root:Bool) (s:Bool × List Bool),s.2.length=8->VC OC fc (.agg (T.enc t)::.bool root::caps) s (T.chk (fr root) put t.kind t.num t.low t.kids s)):
  ∀ (N:Nat) (t:T),T.size t<=N->N<=1000000000000->∀ (root:Bool) (s:Bool × List Bool),s.2.length=8->∀ rows,V6 OC fc caps rows s->c8 Tryz.prog G0 121 [.agg (T.enc t),.bool root,.ptr 5 0 0,.ptr 6 0 0] rows [0,1,2,3,5,6] ⟨.tup [],[(1,LL (T.vis fr put root t s).2),(2,MB (T.vis fr put root t s).1)]⟩:=by
 intro N
 induction N with
 |zero=>intro t h;have:=T.size_pos t;omega
 |succ N ih=>
  intro t ht hN root s hl
  have hCt:=hC t root s hl
  obtain ⟨k,n,m,es⟩:=t
  have hls:=T.len_sizes es
  simp only [T.size] at ht
  have htr:=T.enc_tree (.mk k n m es)
  have hte:=T.encs_tree es
  rw [T.vis]
  simp only [T.kind,T.num,T.low,T.kids] at hCt
  have hl1:=T.chk_len (free:=fr root) (put:=put) (k:=k) (n:=n) (m:=m) (es:=es) hl
  generalize T.chk (fr root) put k n m es s=s1 at hCt hl1
  refine LS ho hcp Tryz.func121 rfl (by kernel_rfl) (by simp [Tryz.ntmps121]) (by simp only [aP,aI,bE htr,ai];rfl) ?_
  simp only [Tryz.ntmps121,aK,Nat.reduceAdd,T.enc] at hCt ⊢
  have hgt:=fun (i:Nat) (e:T)=>T.encs_get (es:=es) (i:=i) (e:=e)
  have hln:=T.encs_len es
  generalize T.encs es=EE at hgt hln hte hCt
  refine aF
  refine pP hCt ⟨aZ,aZ,aZ,aZ⟩ ?_
  refine aA
  refine aF
  refine aJ (α:={i:Nat // i<=es.length}) (fun i=>[(3,.ptr 6 0 0),(13,.sl false EE),(14,.int .i64 (es.length:Nat)),(15,.int .i64 (i.1:Nat))]) (fun i=>[.cells 0 OC,LL (T.viss fr put (es.take i.1) s1).2,MB (T.viss fr put (es.take i.1) s1).1,VQ,.dead,.cells 0 [.fn (.func fc) [] caps],W8,.cells 0 [.int .i64 k,.int .i64 n,.int .i64 m,.sl false EE]]) (fun i=>es.length - i.1) ⟨0,az _⟩ (Weak.ref ⟨?_,.inl ?_⟩) ?_
  .simp only [wS,simprocAttr,hln];try exact rfl
  .simp only [wS,simprocAttr,ci,T.viss];try exact rfl
  .rintro ⟨i,hi⟩ K2 hK2
   have hli:=T.viss_len fr put (es.take i) s1 hl1
   generalize hsi:T.viss fr put (es.take i) s1=si at hli
   refine aF
   refine ⟨fun h=>?_,fun h=>?_⟩
   .have hlt:i<es.length:=by simpa using h
    have hltE:i<EE.length:=by omega
    obtain ⟨e,he⟩:∃ e,es[i]? =some e:=⟨_,ah hlt⟩
    have hg:=hgt i e he
    have hce:=ih e (by have:=T.size_mem (aj he);omega) (by omega) false si hli
    have htk:=T.viss_take (fr:=fr) (put:=put) (s:=s1) he
    rw [hsi] at htk
    rw [<- htk] at hce
    have e1:=aO (k:=i) hlt (by omega)
    obtain ⟨ea,eb,ec,ed,hee⟩:=aN e
    rw [hee] at hg hce
    repeat' (first|(refine cC ?_;simp only [wS,simprocAttr,hg,hltE,hlt,W8])|refine aH|fail)
    refine KV hce ⟨⟨aZ,aZ,aZ,aZ⟩,aZ,aZ⟩ ?_
    refine aA
    refine aR e1
    refine hK2.go ⟨i+1,hlt⟩ (Weak.ref ⟨?_,.inr ⟨by simp,?_,fun g cs hg=>bE (bX g cs hg),?_,?_⟩⟩) (by simp only;omega)
    .exact aZ
    .exact aZ
    .intro z hz
     replace hz:=aC hz
     rcases hz with rfl|rfl|rfl|rfl<;>first|rfl|exact aB hte
    .refine aS
     refine ⟨bE ho,UK _ _,rfl,rfl,rfl,?_,rfl,?_⟩
     .simp only [aG,aP,aI,ab,ac];exact b7 (GI (by simp)) hcp
     .simp only [aG,aP,aI,aB hte,ai]
   .have hge:i=es.length:=by simp at h;omega
    rw [hge,bi] at hsi
    refine aF
    rw [hsi]
    refine jC rfl ⟨rfl,⟨⟨aZ,aZ,aZ,aZ⟩,aZ,aZ⟩⟩
theorem NT {OC:List AV} (ho:aP aE OC=true) {fc:FuncId} {caps:List AV} (hcp:aP BT caps=true) (fr:Bool->Bool) (put:Bool) (hC:∀ (t:T) (root:Bool) (s:Bool × List Bool),s.2.length=8->VC OC fc (.agg (T.enc t)::.bool root::caps) s (T.chk (fr root) put t.kind t.num t.low t.kids s))
  (t:T) (ht:T.size t<=1000000000000) (s:Bool × List Bool) (hl:s.2.length=8):VC OC 93 [.agg (T.enc t),.fn (.func fc) [] caps] s (T.vis fr put true t s):=by
 have hce:=aCB ho hcp fr put hC _ t (ap _) ht true s hl
 have htr:=T.enc_tree t
 obtain ⟨ea,eb,ec,ed,hee⟩:=aN t
 rw [hee] at hce htr ⊢
 have hin:cQ aE ed=true:=by simpa only [aP,aI,ac,ab] using htr
 generalize T.vis fr put true t s=s' at hce
 refine nD ho Tryz.func93 rfl (by kernel_rfl) (by simp [Tryz.ntmps93]) (by simp only [aP,aI,aB hin,hcp,ai]) ?_
 simp only [Tryz.ntmps93,aK,Nat.reduceAdd]
 refine aF
 refine KV hce ⟨⟨aZ,aZ,aZ,aZ⟩,aZ,aZ⟩ ?_
 refine aA
 refine aF
 refine jC rfl ⟨rfl,⟨aZ,aZ,aZ,aZ⟩⟩
def MF (s:ByteArray):Bool:=decide (1<=s.size/\s.size<=16)&&((xG s).toList==[])
def xT (t:T):Bool:=decide (T.size t<=32)&&decide (T.depth t<=8)
def hJ (nm:ByteArray) (f p:T) (b:Int):Bool:=MF nm&&(decide (-1<=b/\b<24)&&(!decide (f.kind=28)&&(xT f&&(xT p&&T.visits f p))))
set_option maxHeartbeats 8000000 in
theorem WZ (nm:ByteArray) (f p:T) (b:Int) (hf:T.size f<=1000000000000) (hp:T.size p<=1000000000000):Pure Tryz.prog G0 59 [.agg (sF nm f p b)] (.bool (hJ nm f p b)):=by
 have ho:=jL nm f p b
 have ksf:=CH _ f (ap _) hf
 have ksp:=CH _ p (ap _) hp
 have kdf:=AB _ f (ap _) hf
 have kdp:=AB _ p (ap _) hp
 have kv1:=NT ho (fc:=94) (caps:=[.ptr 3 0 0]) rfl (fun r=>r) false (fun t root s hl=>aA5 ho t root s hl) f hf (true,List.replicate 8 false) rfl
 have hl2:=T.vis_len (fun r=>r) false true f (true,List.replicate 8 false) rfl
 have kv2:=NT ho (fc:=95) (caps:=[.ptr 3 0 0,.ptr 0 0 0]) rfl (fun _=>decide (f.num= -100)) true (fun t root s hl=>aB8 t root s hl) p hp _ hl2
 have hvis:T.visits f p=(T.vis (fun _=>decide (f.num= -100)) true true p (T.vis (fun r=>r) false true f (true,List.replicate 8 false))).1:=rfl
 obtain ⟨V,hV⟩:∃ V,V=hJ nm f p b:=⟨_,rfl⟩
 rw [<- hV]
 have htf:=T.enc_tree f
 have htp:=T.enc_tree p
 generalize T.vis (fun _=>decide (f.num= -100)) true true p (T.vis (fun r=>r) false true f (true,List.replicate 8 false))=s2 at kv2 hvis
 generalize T.vis (fun r=>r) false true f (true,List.replicate 8 false)=s1 at kv1 kv2 hl2
 have hkd:f.kind=28↔(f.kind==28)=true:=by simp
 obtain ⟨sf,hsf⟩:∃ x,x=T.size f:=⟨_,rfl⟩
 obtain ⟨sp,hsp⟩:∃ x,x=T.size p:=⟨_,rfl⟩
 obtain ⟨df,hdf⟩:∃ x,x=T.depth f:=⟨_,rfl⟩
 obtain ⟨dp,hdp⟩:∃ x,x=T.depth p:=⟨_,rfl⟩
 unfold hJ xT MF at hV
 rw [<- hsf,<- hsp,<- hdf,<- hdp,hvis] at hV
 rw [<- hsf] at ksf
 rw [<- hsp] at ksp
 rw [<- hdf] at kdf
 rw [<- hdp] at kdp
 clear hsf hsp hdf hdp hvis hl2
 obtain ⟨fk,fn,fm,fs⟩:=f
 obtain ⟨pk,pn,pm,ps⟩:=p
 simp only [T.kind] at hV hkd
 refine aL bX Tryz.func59 rfl (by kernel_rfl) (by simp [Tryz.ntmps59]) (by simp only [aP,aI,ho,ai]) rfl ?_
 simp only [sF,T.enc,ar,ba] at ho kv1 kv2 ksf ksp kdf kdp htf htp ⊢
 generalize T.encs fs=FE at ho kv1 kv2 ksf kdf htf ⊢
 generalize T.encs ps=PE' at ho kv1 kv2 ksp kdp htp ⊢
 simp only [Tryz.ntmps59,aK,Nat.reduceAdd]
 by_cases hsz:1<=nm.size/\nm.size<=16
 .have ktr := aAc nm (by omega) (by omega)
  unfold azS at ktr
  have d1:decide (((nm.size:Nat):Int)<1)=false:=decide_eq_false (by omega)
  have d2:decide (((nm.size:Nat):Int) > 16)=false:=decide_eq_false (by omega)
  rw [decide_eq_true hsz,ac] at hV
  generalize xG nm=tn at ktr hV
  generalize htn:(tn.toList==[])=ok at hV
  refine dM (dV d1 d2 @A7 htn)
  iterate 4 (focus (refine aD rfl ?_;refine aA;refine congrArg AV.bool ?_;rw [hV];first|(simp_all;done)|(simp_all<;>omega)))
  have hok:=‹(!ok)=false›
  have hb1:=‹decide (b< -1)=false›
  have hb2:=‹decide (b >= 24)=false›
  have hk28:=‹(fk==28)=false›
  obtain ⟨sm,hsm⟩:∃ sm:Nat->Bool,sm=fun i=>if i=0 then decide (sf<=32)&&decide (df<=8) else decide (sp<=32)&&decide (dp<=8):=⟨_,rfl⟩
  have sm0:sm 0=(decide (sf<=32)&&decide (df<=8)):=by rw [hsm];rfl
  have sm1:sm 1=(decide (sp<=32)&&decide (dp<=8)):=by rw [hsm];rfl
  have hV2:V=(sm 0&&(sm 1&&s2.1)):=by
   rw [hV,sm0,sm1]
   have:ok=true:=by simpa using hok
   have b1: -1<=b/\b<24:=by simp at hb1 hb2;omega
   have b2:fk≠28:=by simpa using hk28
   simp [this,b1,b2]
  obtain ⟨PG,hPG⟩:∃ x:List (List AV),x=[[.int .i64 fk,.int .i64 fn,.int .i64 fm,.sl false FE],[.int .i64 pk,.int .i64 pn,.int .i64 pm,.sl false PE']]:=⟨_,rfl⟩
  have hPl:PG.length=2:=by rw [hPG];rfl
  have hPt:cQ aE PG=true:=by rw [hPG];simp only [cQ,htf,htp,ai]
  have hat:∀ i,i<2->∃ (x y:Nat) (k n m:Int) (E:List (List AV)),PG[i]? =some [.int .i64 k,.int .i64 n,.int .i64 m,.sl false E]/\Pure Tryz.prog G0 90 [.agg [.int .i64 k,.int .i64 n,.int .i64 m,.sl false E]] (.int .i64 (x:Nat))/\Pure Tryz.prog G0 91 [.agg [.int .i64 k,.int .i64 n,.int .i64 m,.sl false E]] (.int .i64 (y:Nat))/\sm i=(decide (x<=32)&&decide (y<=8))/\cQ aE E=true:=fun i hi=>by
   have:i=0\/i=1:=by omega
   rw [hPG]
   rcases this with rfl|rfl
   .exact ⟨sf,df,_,_,_,_,rfl,ksf,kdf,sm0,by simpa only [aP,aI,ac,ab] using htf⟩
   .exact ⟨sp,dp,_,_,_,_,rfl,ksp,kdp,sm1,by simpa only [aP,aI,ac,ab] using htp⟩
  have w1:∀ i:Nat,i<2->IntKind.i64.wrap ((i:Int)+1)=((i+1:Nat):Int):=fun i hi=>aO hi (by decide)
  have hlt2:∀ i:Nat,decide ((i:Int)<2)=true->i<2:=fun i h=>by simp at h;omega
  clear sm0 sm1 hsm hV ktr ksf kdf ksp kdp
  refine aJ (α:={i:Nat // i<=2/\∀ j,j<i->sm j=true}) (fun i=>[(1,.ptr 0 0 0),(44,.sl true PG),(45,.int .i64 2),(46,.int .i64 (i.1:Nat))]) (fun i=>[.cells 0 [.str nm,.int .i64 fk,.int .i64 fn,.int .i64 fm,.sl false FE,.int .i64 pk,.int .i64 pn,.int .i64 pm,.sl false PE',.int .i64 b]]) (fun i=>2 - i.1) ⟨0,az _,fun j hj=>absurd hj (bm j)⟩ (Weak.ref ⟨?_,.inl ?_⟩) ?_
  .simp only [wS,simprocAttr,hPG];try exact rfl
  .exact aZ
  .rintro ⟨i,hi,hsmall⟩ K1 hK1
   by_cases h2:i<2
   .have hd:decide ((i:Int)<2)=true:=by simp;omega
    obtain ⟨x,y,k,n,m,E,hg1,kx,ky,hxy,hE⟩:=hat i h2
    have e1:=w1 i h2
    have hlt':i<PG.length:=by omega
    rw [Bool.eq_iff_iff] at hxy
    by_cases hx:x<=32
    .have dx:decide (((x:Nat):Int) > 32)=false:=decide_eq_false (by omega)
     by_cases hy:y<=8
     .have dy:decide (((y:Nat):Int) > 8)=false:=decide_eq_false (by omega)
      have hsi:sm i=true:=hxy.2 (by simp [hx,hy])
      repeat' (first|(refine cC ?_;simp only [wS,simprocAttr,hg1,hlt',hd,dx,e1,dy])|refine aM|refine iP ?_|fail)
      refine hK1.go ⟨i+1,h2,fun j hj=>by rcases jc.1 hj with h|rfl;exact hsmall j h;exact hsi⟩ (Weak.ref ⟨?_,.inr ⟨az _,?_,fun g cs hg=>bE (bX g cs hg),?_,?_⟩⟩) (by simp only;omega)
      .exact aZ
      .exact aZ
      .intro z hz
       replace hz:=aC hz
       rcases hz with rfl|rfl|rfl|rfl<;>first|rfl|(simp only [aI];exact aB hPt)
      .simp only [bg,bz,ab,aG];exact bE ho
     .have dy:decide (((y:Nat):Int) > 8)=true:=decide_eq_true (by omega)
      have hsi:sm i=false:=by by_cases h:sm i=true;exact absurd (by simpa [hx] using hxy.1 h) hy;simpa using h
      have hf2:V=false:=by rw [hV2];have:i=0\/i=1:=(by omega);rcases this with rfl|rfl<;>simp [hsi]
      repeat' (first|(refine cC ?_;simp only [wS,simprocAttr,hg1,hlt',hd,dx,e1,dy])|refine aM|refine iP ?_|fail)
      refine aD rfl ?_
      refine aA;exact congrArg AV.bool hf2.symm
    .have dx:decide (((x:Nat):Int) > 32)=true:=decide_eq_true (by omega)
     have hsi:sm i=false:=by by_cases h:sm i=true;exact absurd (by simpa using (show x<=32/\y<=8 by simpa using hxy.1 h).1) hx;simpa using h
     have hf2:V=false:=by rw [hV2];have:i=0\/i=1:=(by omega);rcases this with rfl|rfl<;>simp [hsi]
     have dy:True:=trivial
     repeat' (first|(refine cC ?_;simp only [wS,simprocAttr,hg1,hlt',hd,dx,e1,dy])|refine aM|refine iP ?_|fail)
     refine aD rfl ?_
     refine aA;exact congrArg AV.bool hf2.symm
   .have hd:decide ((i:Int)<2)=false:=by simp;omega
    obtain rfl:i=2:=by omega
    have hf2:V=s2.1:=by rw [hV2,hsmall 0 (by omega),hsmall 1 (by omega)];rfl
    have hr8:(List.replicate 8 false).map AV.bool=[.bool false,.bool false,.bool false,.bool false,.bool false,.bool false,.bool false,.bool false]:=rfl
    repeat' (first|(refine cC ?_;simp only [wS,simprocAttr,hd])|refine aH|fail)
    refine pP kv1 ⟨aZ,aZ,aZ,aZ⟩ ?_
    refine aA
    refine aF
    refine pP kv2 ⟨aZ,aZ,aZ,aZ⟩ ?_
    simp only [wS,simprocAttr,MB]
    refine aF
    refine aD rfl ?_
    refine aA;exact congrArg AV.bool hf2.symm
 .have hf2:V=false:=by rw [hV];simp [hsz]
  have hc:nm.size<1\/(¬ nm.size<1/\nm.size > 16):=by omega
  clear kv1 kv2 ksf ksp kdf kdp
  rcases hc with h1|⟨h1,h2⟩
  .have d1:decide (((nm.size:Nat):Int)<1)=true:=decide_eq_true (by omega)
   have d2:True:=trivial
   refine gT (bF d1 d2)
   refine aD rfl ?_
   refine aA;exact congrArg AV.bool hf2.symm
  .have d1:decide (((nm.size:Nat):Int)<1)=false:=decide_eq_false (by omega)
   have d2:decide (((nm.size:Nat):Int) > 16)=true:=decide_eq_true (by omega)
   refine gT (bF d1 d2)
   refine aD rfl ?_
   refine aA;exact congrArg AV.bool hf2.symm
end Go.Proofs.YtggflhbigolakaaGreatDoor
