import Derived.Test.YtggflhbigolakaaGreatDoorYH
import Derived.Test.YtggflhbigolakaaGreatDoorYK
set_option linter.unusedVariables false
set_option linter.unusedSimpArgs false
namespace Go.Proofs.YtggflhbigolakaaGreatDoor
open Go.AM
attribute [local irreducible] cG bG bI bL bW bZ aQ aV bN
set_option maxRecDepth 100000
def AH:List Nat->Code->Code
 | [],c=>c
 |0::p,.seq a _=>AH p a
 |1::p,.seq _ b=>AH p b
 |2::p,.block _ c=>AH p c
 |_,c=>c
set_option maxHeartbeats 16000000 in
theorem YA (L:List Int) (hL:∀ x∈L,bR x) (con:Bool) (pn:Int) (hcn:con=true->0<pn) (hpn2:pn<=2) (nn:Nat) (hn1:1<=nn) (hn3:nn<=3) (RT:T) (x:MX) (vP:Nat) (fs:List Fn) (a l:Int) (ds:List (Nat × List T)) (hlay:Lay x vP fs) (hR:FRx fs ds) (xL:x.L=L) (xk:x.pk=27) (xn:x.pn=pn) (xm:x.pm=0) (xc:x.con=con) (xF:x.F=0) (hfn:fs.length=nn) (hlb: -1100<=l/\l<=1000) (hdv:∀ fd∈ds,G7.fdV fd) (hRT:RT=.mk 27 pn 0 (List.zipWith G7.funT ds (G7.blocks ⟨L,ds,0,con,pn⟩ (IntKind.i64.wrap (l - IntKind.i64.wrap (2*(nn:Int)))) nn nn 0 a).1)) (c:Code) (hc:Tryz.f69.body=some c):cG Tryz.prog G0 125 0 (AH [1,1,1,1,1,1] c) (eR Tryz.prog Tryz.f69 fun v x=>AM.wk v=.agg (T.enc RT)) ⟨eJ [(4,.ptr 0 0 0),(5,.ptr 1 0 0),(6,.int .i64 nn)],[.cells 0 [.int .i64 0,.int .i64 0,.int .i64 0,.sl true []],x.row a l,x.A2,x.A3,x.A4,x.A5]⟩:=by
 obtain rfl:_=c:=ir hc
 clear hc
 have ez:IntKind.i64.wrap (nn:Int)=nn:=bC (by omega) (by omega)
 simp only [AH]
 obtain ⟨L',pk',pn',pm',F',kv',con',A2',A3',A4',A5'⟩:=x
 simp only at xL xk xn xm xc xF
 subst xL xk xn xm xc xF
 obtain ⟨_,_,_,hkv,_⟩:=hlay.at
 simp only at hkv
 subst hkv
 simp only [hfn,MX.row]
 refine aF
 rename_i Kc hKc Kd hKd
 replace hKc:=aa trivial hKc
 generalize hal:IntKind.i64.wrap (l - IntKind.i64.wrap (2*(nn:Int)))=al at hRT
 have halb: -1110<=al/\al<=1000:=by
  rw [bC (by omega: -9223372036854775808<=2*(nn:Int)) (by omega),bC (by omega) (by omega)] at hal
  omega
 have hdn:ds.length=nn:=by have:=hR.1;omega
 refine aJ (α:={p:MX × Nat × List Fn × List T × Int × Int // p.2.2.1.length=nn/\Lay p.1 p.2.1 p.2.2.1/\FRx p.2.2.1 ds/\p.1.L=L'/\p.1.pk=27/\p.1.pn=pn'/\p.1.pm=0/\p.1.con=con'/\p.2.2.2.1.length<=nn/\(∀ (j:Nat) (f:Fn) (d:Nat × List T) (b:T),p.2.2.1[j]? =some f->ds[j]? =some d->p.2.2.2.1[j]? =some b->f.ks.map wkL=T.encs (d.2++[b]))/\G7.blocks ⟨L',ds,0,con',pn'⟩ al nn nn 0 a=(match G7.blocks ⟨L',ds,0,con',pn'⟩ al nn (nn - p.2.2.2.1.length) p.2.2.2.1.length p.2.2.2.2.1 with|(l,s)=>(p.2.2.2.1++l,s))}) (fun p=>[(4,.ptr 0 0 0),(5,.ptr 1 0 0),(6,.int .i64 nn),(9,.int .i64 al),(10,.int .i64 (p.1.2.2.2.1.length:Nat))]) (fun p=>[.cells 0 [.int .i64 0,.int .i64 0,.int .i64 0,.sl true []],p.1.1.row p.1.2.2.2.2.1 p.1.2.2.2.2.2,p.1.1.A2,p.1.1.A3,p.1.1.A4,p.1.1.A5]) (fun p=>nn - p.1.2.2.2.1.length) ⟨(⟨L',27,pn',0,0,.osl 3 vP 0 fs.length 4 false,con',A2',A3',A4',A5'⟩,vP,fs,[],a,al),hfn,hlay,hR,rfl,rfl,rfl,rfl,rfl,az _,fun j f d b _ _ h=>by simp at h,by simp only [dm,ak,ba]⟩ (Weak.ref ⟨?_,.inl ?_⟩) ?_
 .simp only [wS,simprocAttr,hal,ak];try exact rfl
 .simp only [wS,simprocAttr,hal,hfn,MX.row];try exact rfl
 .rintro ⟨⟨x,vQ,fs,bs,a,l⟩,hfn,hlay,hR,xL,xk,xn,xm,xc,hbl,hbs,hinv⟩ K7 hK7
  simp only at hfn hlay hR xL xk xn xm xc hbl hbs hinv
  obtain ⟨c3,hA3,hlen,hkv,_,_,_⟩:=hlay.at
  obtain ⟨L2,pk2,pn2,pm2,F2,kv2,con2,A2',A3',A4',A5'⟩:=x
  simp only at xL xk xn xm xc hkv hA3
  subst xL xk xn xm xc hkv hA3
  simp only [hfn,MX.row]
  by_cases hin:bs.length<nn
  .have c1:decide (((bs.length:Nat):Int)<((nn:Nat):Int))=true:=by simp;omega
   have e3:=aO (k:=bs.length) hin (by omega)
   obtain ⟨fn,hfi⟩:∃ fn,fs[bs.length]? =some fn:=⟨_,ah (by omega)⟩
   obtain ⟨d,hdi⟩:∃ d,ds[bs.length]? =some d:=⟨_,ah (by omega)⟩
   have hlay1:Lay ⟨L2,27,pn2,0,bs.length,.osl 3 vQ 0 fs.length 4 false,con2,A2',.cells vQ c3,A4',A5'⟩ vQ fs:=hlay.withF
   obtain ⟨c3',hc3,_,_,_,_,hat⟩:=hlay1.at
   obtain rfl:c3=c3':=by cases hc3;rfl
   obtain ⟨r,tl,ha,hd,eD⟩:=hat bs.length fn hfi
   have hlb:=JO al nn bs.length (by omega) hn1 hn3
   have hx1:(MX.mk L2 27 pn2 0 bs.length (.osl 3 vQ 0 fs.length 4 false) con2 A2' (.cells vQ c3) A4' A5').ok:=hlay1.ok hL hcn hR.wf bs.length rfl (by omega)
   obtain ⟨hEO,hEX⟩:=hlay1.env hR hx1 bs.length rfl (by omega) hfi ha rfl hd
   have hEV:G7.EnvV ⟨L2,ds,bs.length,con2,pn2⟩:=⟨by simp only;omega,by simp only;omega,hdv,fun h=>by have:=hcn h;simp only;omega,hpn2⟩
   have hFR:=hR.2 _ _ _ hfi hdi
   have hw:=hFR.1
   obtain ⟨b1,b2,b3,b4⟩:=G7.block_v hEV (a,G7.leftOf al nn bs.length) (by simp only;omega) (by simp only;omega)
   have kb:=aCy hx1 hEO hEX
   rcases hbk:G7.block ⟨L2,ds,bs.length,con2,pn2⟩ (a,G7.leftOf al nn bs.length) with ⟨b,a9,l9⟩
   rw [hbk] at b1
   have hnb:=aAl hEV b1
   clear b1 b2 b3 b4
   rw [show nn - bs.length=(nn - (bs.length+1))+1 by omega,G7.blocks,hbk] at hinv
   simp only at hinv
   rw [hfn] at kb
   have hd3:c3.drop (bs.length*4+3)=.osl r fn.v 0 (fn.q+1) 4 fn.b::tl:=by rw [<- ji,hd];rfl
   have hq:=hw.2.2.1
   have en:IntKind.i64.wrap ((nn:Int)+1)=(nn:Int)+1:=bC (by omega) (by omega)
   have en1:IntKind.i64.wrap ((nn:Int) - 1)=(nn:Int) - 1:=bC (by omega) (by omega)
   have hz:((nn:Int)+1=0)=False:=eq_false (by omega)
   have hlf:(fn.q*4+4<=fn.ks.flatten.length)=True:=eq_true (by rw [dE (sz:=4) fun e he=>(hw.2.2.2 e he).len,hw.1];omega)
   have hq1:fn.q<fn.q+1:=Nat.lt_succ_self _
   have eq1:IntKind.i64.wrap (((fn.q+1:Nat):Int) - 1)=(fn.q:Int):=by
    rw [dP (by omega) (by omega)];omega
   have hbn:∀ (c:List AV),wkL c=T.enc b->∀ (j:Nat) (f:Fn) (d':Nat × List T) (b':T),(fs.set bs.length (fn.body c))[j]? =some f->ds[j]? =some d'->(bs++[b])[j]? =some b'->f.ks.map wkL=T.encs (d'.2++[b']):=fun c hc j f d' b' h1 h2 h3=>by
    by_cases hj:j=bs.length
    .subst hj
     rw [ib (by omega)] at h1
     rw [hdi] at h2
     rw [List.getElem?_concat_length] at h3
     cases h1;cases h2;cases h3
     exact hFR.full hc
    .rw [jd (fun e=>hj e.symm)] at h1
     have:=(aq.1 h3).1
     simp only [an,am] at this
     rw [eo (by omega)] at h3
     exact hbs j f d' b' h1 h2 h3
   simp only [t7] at ha
   rcases ha with ⟨rfl,rfl⟩|⟨rfl,rfl⟩|⟨rfl,rfl⟩
   .by_cases h0:bs.length=0
    .have c2:(((bs.length:Nat):Int)==0)=true:=by simp [h0]
     repeat' (first|(refine cC ?_;simp only [wS,simprocAttr,c1,hin,hd,hd3,en,en1,hz,hq1,eq1,hlf,Fn.row,Fn.cells,ar,ba,c2])|refine aH|fail)
     skip
     refine aW kb _ _ (by refine ⟨?_,?_,?_,?_,?_⟩<;>(simp only [wS,simprocAttr,MX.row,Fn.row];try exact rfl)) ?_
     rintro t9 a8 l8 hbk2
     have hbk':=hbk
     rw [G7.leftOf,if_pos h0] at hbk'
     obtain ⟨rfl,rfl,rfl⟩:t9=b/\a8=a9/\l8=l9:=by
      have h9:=hbk2.symm.trans hbk'
      cases h9
      exact ⟨rfl,rfl,rfl⟩
     obtain ⟨k1,n1,m1,es1⟩:=t9
     have hwk:wkL [.int .i64 k1,.int .i64 n1,.int .i64 m1,.sl false (T.encs es1)]=T.enc (.mk k1 n1 m1 es1):=T.wk_enc (.mk k1 n1 m1 es1)
     simp only [T.enc] at hnb
     simp only [wS,simprocAttr,MX.row,vT,T.enc,c1,hin,hd,hd3,en,en1,hz,hq1,eq1,hlf,Fn.row,Fn.cells,ar,ba,c2]
     repeat' (first|(refine cC ?_;simp only [wS,simprocAttr,MX.row,e3,c1,hin,hd,hd3,en,en1,hz,hq1,eq1,hlf,Fn.row,Fn.cells,ar,ba,c2])|refine aH|fail)
     refine hK7.go ⟨(_,vQ,fs.set bs.length (fn.body [.int .i64 k1,.int .i64 n1,.int .i64 m1,.sl false (T.encs es1)]),bs++[.mk k1 n1 m1 es1],a8,l8),by simp only [ef];exact hfn,eD (fn.body [.int .i64 k1,.int .i64 n1,.int .i64 m1,.sl false (T.encs es1)]) rfl rfl rfl rfl,hR.set hdi (hFR.body hnb),rfl,rfl,rfl,rfl,rfl,by simp only [an,am];omega,hbn _ hwk,by rw [hinv,an,am];simp only [bj,dw]⟩ (Weak.ref ⟨?_,.inl ?_⟩) (by simp only [an,am];omega)
     .simp only [wS,simprocAttr,an,am];try exact rfl
     .simp only [wS,simprocAttr,MX.setRow,MX.row,hfn,Fn.row4 hw hnb];try exact rfl
    .have c2:(((bs.length:Nat):Int)==0)=false:=by rw [beq_eq_false_iff_ne];omega
     repeat' (first|(refine cC ?_;simp only [wS,simprocAttr,c1,hin,hd,hd3,en,en1,hz,hq1,eq1,hlf,Fn.row,Fn.cells,ar,ba,c2])|refine aH|fail)
     skip
     refine aW kb _ _ (by refine ⟨?_,?_,?_,?_,?_⟩<;>(simp only [wS,simprocAttr,MX.row,Fn.row];try exact rfl)) ?_
     rintro t9 a8 l8 hbk2
     have hbk':=hbk
     rw [G7.leftOf,if_neg h0] at hbk'
     obtain ⟨rfl,rfl,rfl⟩:t9=b/\a8=a9/\l8=l9:=by
      have h9:=hbk2.symm.trans hbk'
      cases h9
      exact ⟨rfl,rfl,rfl⟩
     obtain ⟨k1,n1,m1,es1⟩:=t9
     have hwk:wkL [.int .i64 k1,.int .i64 n1,.int .i64 m1,.sl false (T.encs es1)]=T.enc (.mk k1 n1 m1 es1):=T.wk_enc (.mk k1 n1 m1 es1)
     simp only [T.enc] at hnb
     simp only [wS,simprocAttr,MX.row,vT,T.enc,c1,hin,hd,hd3,en,en1,hz,hq1,eq1,hlf,Fn.row,Fn.cells,ar,ba,c2]
     repeat' (first|(refine cC ?_;simp only [wS,simprocAttr,MX.row,e3,c1,hin,hd,hd3,en,en1,hz,hq1,eq1,hlf,Fn.row,Fn.cells,ar,ba,c2])|refine aH|fail)
     refine hK7.go ⟨(_,vQ,fs.set bs.length (fn.body [.int .i64 k1,.int .i64 n1,.int .i64 m1,.sl false (T.encs es1)]),bs++[.mk k1 n1 m1 es1],a8,l8),by simp only [ef];exact hfn,eD (fn.body [.int .i64 k1,.int .i64 n1,.int .i64 m1,.sl false (T.encs es1)]) rfl rfl rfl rfl,hR.set hdi (hFR.body hnb),rfl,rfl,rfl,rfl,rfl,by simp only [an,am];omega,hbn _ hwk,by rw [hinv,an,am];simp only [bj,dw]⟩ (Weak.ref ⟨?_,.inl ?_⟩) (by simp only [an,am];omega)
     .simp only [wS,simprocAttr,an,am];try exact rfl
     .simp only [wS,simprocAttr,MX.setRow,MX.row,hfn,Fn.row4 hw hnb];try exact rfl
   .by_cases h0:bs.length=0
    .have c2:(((bs.length:Nat):Int)==0)=true:=by simp [h0]
     repeat' (first|(refine cC ?_;simp only [wS,simprocAttr,c1,hin,hd,hd3,en,en1,hz,hq1,eq1,hlf,Fn.row,Fn.cells,ar,ba,c2])|refine aH|fail)
     skip
     refine aW kb _ _ (by refine ⟨?_,?_,?_,?_,?_⟩<;>(simp only [wS,simprocAttr,MX.row,Fn.row];try exact rfl)) ?_
     rintro t9 a8 l8 hbk2
     have hbk':=hbk
     rw [G7.leftOf,if_pos h0] at hbk'
     obtain ⟨rfl,rfl,rfl⟩:t9=b/\a8=a9/\l8=l9:=by
      have h9:=hbk2.symm.trans hbk'
      cases h9
      exact ⟨rfl,rfl,rfl⟩
     obtain ⟨k1,n1,m1,es1⟩:=t9
     have hwk:wkL [.int .i64 k1,.int .i64 n1,.int .i64 m1,.sl false (T.encs es1)]=T.enc (.mk k1 n1 m1 es1):=T.wk_enc (.mk k1 n1 m1 es1)
     simp only [T.enc] at hnb
     simp only [wS,simprocAttr,MX.row,vT,T.enc,c1,hin,hd,hd3,en,en1,hz,hq1,eq1,hlf,Fn.row,Fn.cells,ar,ba,c2]
     repeat' (first|(refine cC ?_;simp only [wS,simprocAttr,MX.row,e3,c1,hin,hd,hd3,en,en1,hz,hq1,eq1,hlf,Fn.row,Fn.cells,ar,ba,c2])|refine aH|fail)
     refine hK7.go ⟨(_,vQ,fs.set bs.length (fn.body [.int .i64 k1,.int .i64 n1,.int .i64 m1,.sl false (T.encs es1)]),bs++[.mk k1 n1 m1 es1],a8,l8),by simp only [ef];exact hfn,eD (fn.body [.int .i64 k1,.int .i64 n1,.int .i64 m1,.sl false (T.encs es1)]) rfl rfl rfl rfl,hR.set hdi (hFR.body hnb),rfl,rfl,rfl,rfl,rfl,by simp only [an,am];omega,hbn _ hwk,by rw [hinv,an,am];simp only [bj,dw]⟩ (Weak.ref ⟨?_,.inl ?_⟩) (by simp only [an,am];omega)
     .simp only [wS,simprocAttr,an,am];try exact rfl
     .simp only [wS,simprocAttr,MX.setRow,MX.row,hfn,Fn.row4 hw hnb];try exact rfl
    .have c2:(((bs.length:Nat):Int)==0)=false:=by rw [beq_eq_false_iff_ne];omega
     repeat' (first|(refine cC ?_;simp only [wS,simprocAttr,c1,hin,hd,hd3,en,en1,hz,hq1,eq1,hlf,Fn.row,Fn.cells,ar,ba,c2])|refine aH|fail)
     skip
     refine aW kb _ _ (by refine ⟨?_,?_,?_,?_,?_⟩<;>(simp only [wS,simprocAttr,MX.row,Fn.row];try exact rfl)) ?_
     rintro t9 a8 l8 hbk2
     have hbk':=hbk
     rw [G7.leftOf,if_neg h0] at hbk'
     obtain ⟨rfl,rfl,rfl⟩:t9=b/\a8=a9/\l8=l9:=by
      have h9:=hbk2.symm.trans hbk'
      cases h9
      exact ⟨rfl,rfl,rfl⟩
     obtain ⟨k1,n1,m1,es1⟩:=t9
     have hwk:wkL [.int .i64 k1,.int .i64 n1,.int .i64 m1,.sl false (T.encs es1)]=T.enc (.mk k1 n1 m1 es1):=T.wk_enc (.mk k1 n1 m1 es1)
     simp only [T.enc] at hnb
     simp only [wS,simprocAttr,MX.row,vT,T.enc,c1,hin,hd,hd3,en,en1,hz,hq1,eq1,hlf,Fn.row,Fn.cells,ar,ba,c2]
     repeat' (first|(refine cC ?_;simp only [wS,simprocAttr,MX.row,e3,c1,hin,hd,hd3,en,en1,hz,hq1,eq1,hlf,Fn.row,Fn.cells,ar,ba,c2])|refine aH|fail)
     refine hK7.go ⟨(_,vQ,fs.set bs.length (fn.body [.int .i64 k1,.int .i64 n1,.int .i64 m1,.sl false (T.encs es1)]),bs++[.mk k1 n1 m1 es1],a8,l8),by simp only [ef];exact hfn,eD (fn.body [.int .i64 k1,.int .i64 n1,.int .i64 m1,.sl false (T.encs es1)]) rfl rfl rfl rfl,hR.set hdi (hFR.body hnb),rfl,rfl,rfl,rfl,rfl,by simp only [an,am];omega,hbn _ hwk,by rw [hinv,an,am];simp only [bj,dw]⟩ (Weak.ref ⟨?_,.inl ?_⟩) (by simp only [an,am];omega)
     .simp only [wS,simprocAttr,an,am];try exact rfl
     .simp only [wS,simprocAttr,MX.setRow,MX.row,hfn,Fn.row4 hw hnb];try exact rfl
   .by_cases h0:bs.length=0
    .have c2:(((bs.length:Nat):Int)==0)=true:=by simp [h0]
     repeat' (first|(refine cC ?_;simp only [wS,simprocAttr,c1,hin,hd,hd3,en,en1,hz,hq1,eq1,hlf,Fn.row,Fn.cells,ar,ba,c2])|refine aH|fail)
     skip
     refine aW kb _ _ (by refine ⟨?_,?_,?_,?_,?_⟩<;>(simp only [wS,simprocAttr,MX.row,Fn.row];try exact rfl)) ?_
     rintro t9 a8 l8 hbk2
     have hbk':=hbk
     rw [G7.leftOf,if_pos h0] at hbk'
     obtain ⟨rfl,rfl,rfl⟩:t9=b/\a8=a9/\l8=l9:=by
      have h9:=hbk2.symm.trans hbk'
      cases h9
      exact ⟨rfl,rfl,rfl⟩
     obtain ⟨k1,n1,m1,es1⟩:=t9
     have hwk:wkL [.int .i64 k1,.int .i64 n1,.int .i64 m1,.sl false (T.encs es1)]=T.enc (.mk k1 n1 m1 es1):=T.wk_enc (.mk k1 n1 m1 es1)
     simp only [T.enc] at hnb
     simp only [wS,simprocAttr,MX.row,vT,T.enc,c1,hin,hd,hd3,en,en1,hz,hq1,eq1,hlf,Fn.row,Fn.cells,ar,ba,c2]
     repeat' (first|(refine cC ?_;simp only [wS,simprocAttr,MX.row,e3,c1,hin,hd,hd3,en,en1,hz,hq1,eq1,hlf,Fn.row,Fn.cells,ar,ba,c2])|refine aH|fail)
     refine hK7.go ⟨(_,vQ,fs.set bs.length (fn.body [.int .i64 k1,.int .i64 n1,.int .i64 m1,.sl false (T.encs es1)]),bs++[.mk k1 n1 m1 es1],a8,l8),by simp only [ef];exact hfn,eD (fn.body [.int .i64 k1,.int .i64 n1,.int .i64 m1,.sl false (T.encs es1)]) rfl rfl rfl rfl,hR.set hdi (hFR.body hnb),rfl,rfl,rfl,rfl,rfl,by simp only [an,am];omega,hbn _ hwk,by rw [hinv,an,am];simp only [bj,dw]⟩ (Weak.ref ⟨?_,.inl ?_⟩) (by simp only [an,am];omega)
     .simp only [wS,simprocAttr,an,am];try exact rfl
     .simp only [wS,simprocAttr,MX.setRow,MX.row,hfn,Fn.row4 hw hnb];try exact rfl
    .have c2:(((bs.length:Nat):Int)==0)=false:=by rw [beq_eq_false_iff_ne];omega
     repeat' (first|(refine cC ?_;simp only [wS,simprocAttr,c1,hin,hd,hd3,en,en1,hz,hq1,eq1,hlf,Fn.row,Fn.cells,ar,ba,c2])|refine aH|fail)
     skip
     refine aW kb _ _ (by refine ⟨?_,?_,?_,?_,?_⟩<;>(simp only [wS,simprocAttr,MX.row,Fn.row];try exact rfl)) ?_
     rintro t9 a8 l8 hbk2
     have hbk':=hbk
     rw [G7.leftOf,if_neg h0] at hbk'
     obtain ⟨rfl,rfl,rfl⟩:t9=b/\a8=a9/\l8=l9:=by
      have h9:=hbk2.symm.trans hbk'
      cases h9
      exact ⟨rfl,rfl,rfl⟩
     obtain ⟨k1,n1,m1,es1⟩:=t9
     have hwk:wkL [.int .i64 k1,.int .i64 n1,.int .i64 m1,.sl false (T.encs es1)]=T.enc (.mk k1 n1 m1 es1):=T.wk_enc (.mk k1 n1 m1 es1)
     simp only [T.enc] at hnb
     simp only [wS,simprocAttr,MX.row,vT,T.enc,c1,hin,hd,hd3,en,en1,hz,hq1,eq1,hlf,Fn.row,Fn.cells,ar,ba,c2]
     repeat' (first|(refine cC ?_;simp only [wS,simprocAttr,MX.row,e3,c1,hin,hd,hd3,en,en1,hz,hq1,eq1,hlf,Fn.row,Fn.cells,ar,ba,c2])|refine aH|fail)
     refine hK7.go ⟨(_,vQ,fs.set bs.length (fn.body [.int .i64 k1,.int .i64 n1,.int .i64 m1,.sl false (T.encs es1)]),bs++[.mk k1 n1 m1 es1],a8,l8),by simp only [ef];exact hfn,eD (fn.body [.int .i64 k1,.int .i64 n1,.int .i64 m1,.sl false (T.encs es1)]) rfl rfl rfl rfl,hR.set hdi (hFR.body hnb),rfl,rfl,rfl,rfl,rfl,by simp only [an,am];omega,hbn _ hwk,by rw [hinv,an,am];simp only [bj,dw]⟩ (Weak.ref ⟨?_,.inl ?_⟩) (by simp only [an,am];omega)
     .simp only [wS,simprocAttr,an,am];try exact rfl
     .simp only [wS,simprocAttr,MX.setRow,MX.row,hfn,Fn.row4 hw hnb];try exact rfl
  .have c1:decide (((bs.length:Nat):Int)<((nn:Nat):Int))=false:=by simp;omega
   rw [show nn - bs.length=0 by omega,G7.blocks] at hinv
   simp only [br] at hinv
   refine aR c1
   obtain ⟨Y,Z,hre⟩:=hlay.fin (N:=125) (box:=[.int .i64 0,.int .i64 0,.int .i64 0,.sl true []]) (s:=⟨eJ [(4,.ptr 0 0 0),(5,.ptr 1 0 0)],[.cells 0 [.int .i64 0,.int .i64 0,.int .i64 0,.sl true []],.cells 0 [cY L2,.int .i64 a,.int .i64 l,.int .i64 27,.int .i64 pn2,.int .i64 0,.osl 3 vQ 0 fs.length 4 false,.int .i64 F2,.bool con2],A2',.cells vQ c3,A4',A5']⟩) hR.wf (a:=a) (l:=l) rfl rfl rfl
   rw [hfn] at hre
   refine hKc.2.go (cK (Ref.trans (Weak.ref ⟨?_,.inl ?_⟩) hre) ?_)
   .exact aZ
   .exact aZ
   have hne:=CY (fs:=fs) (ds:=ds) (bs:=bs) hR.1 (by omega) fun j f d b h1 h2 h3=>⟨(hR.2 j f d h1 h2).2.1,hbs j f d b h1 h2 h3⟩
   rw [hinv] at hRT
   refine aF
   refine dB (v:=.agg [.int .i64 27,.int .i64 pn2,.int .i64 0,.sl false (fs.map Fn.node)]) rfl aZ ?_
   rw [hRT]
   simp only [AM.wk,wkL,gS,hne,T.enc]
set_option maxHeartbeats 16000000 in
theorem aAT (L:List Int) (hL:∀ x∈L,bR x) (con:Bool):Pure Tryz.prog G0 69 [cY L,.bool con] (.agg (T.enc (G7.made L con))):=by
 obtain ⟨RT,hRT⟩:∃ t,t=G7.made L con:=⟨_,rfl⟩
 rw [<- hRT]
 have hLt:aI aE (cY L)=true:=fP L
 refine bH bX Tryz.func69 rfl (by kernel_rfl) (by simp [Tryz.ntmps69]) (by simp [aP,aI,fP]) (by simp only [aI];exact T.enc_tree _) ?_
 simp only [Tryz.ntmps69,aK,Nat.reduceAdd]
 obtain ⟨eb,ee,he⟩:∃ b es,cY L=.sl b es:=⟨_,_,rfl⟩
 rw [he]
 refine cR fun K0 hK0=>?_
 replace hK0:=aa trivial hK0
 refine aF
 refine hK0.2.go ?_
 refine cR fun K1 hK1=>?_
 replace hK1:=aa trivial hK1
 refine aF
 refine hK1.2.go ?_
 refine cR fun K2 hK2=>?_
 replace hK2:=aa trivial hK2
 refine aF
 refine hK2.2.go ?_
 refine cR fun K3 hK3=>?_
 replace hK3:=aa trivial hK3
 have key0 : ∀ (a l pn : Int) (s : AS), (con = true -> 0 < pn) -> pn <= 2 -> G7.start L con = (pn, (a, l)) -> (-1000 <= l /\ l <= 1000) -> Ref G0 125 0 s ⟨eJ [(4, .ptr 0 0 0), (5, .ptr 1 0 0)], [.cells 0 [.int .i64 0, .int .i64 0, .int .i64 0, .sl true []], .cells 0 [cY L, .int .i64 a, .int .i64 l, .int .i64 27, .int .i64 pn, .int .i64 0, .sl true [], .int .i64 0, .bool con]]⟩ -> K3 s := by
  intro a l pn s hcn hpn2 hst hl0 hr
  rw [G7.made,hst] at hRT
  simp only at hRT
  refine hK3.2.go (cK hr ?_)
  refine aF
  refine aW (dT (x:=⟨L,27,pn,0,0,.sl true [],con,.none,.none,.none,.none⟩) (e:=G7.env0 L con) rfl ⟨hL,rfl,rfl,rfl,rfl,rfl⟩ 3 (by decide)) a l bS ?_
  rintro z a1 l1 hz0
  obtain ⟨hz1,hz2⟩:=G7.dr_b (by decide) hz0
  have hl1:=G7.dr_2 hz0
  simp only at hl1
  obtain ⟨nn,hnn⟩:∃ nn:Nat,1+z=nn:=⟨(1+z).toNat,(dc (by omega)).symm⟩
  have ez:IntKind.i64.wrap (nn:Int)=nn:=bC (by omega) (by omega)
  have hn1:1<=nn:=by omega
  have hn3:nn<=3:=by omega
  clear hK3
  simp only [hz0,hnn,ax] at hRT
  simp only [wS,simprocAttr,hnn,ez,vI]
  refine aR (bF hnn ez)
  rename_i Ka hKa Kb hKb
  replace hKa:=aa trivial hKa
  have key1:∀ (x:MX) (vP:Nat) (fs:List Fn) (a l:Int) (ds:List (Nat × List T)) (s:AS),Lay x vP fs->FRx fs ds->x.L=L->x.pk=27->x.pn=pn->x.pm=0->x.con=con->x.F=0->fs.length=nn->G7.funs (G7.env0 L con) nn (a1,l1)=(ds,(a,l))->(-1100<=l/\l<=1000)->Ref G0 125 0 s ⟨eJ [(4,.ptr 0 0 0),(5,.ptr 1 0 0),(6,.int .i64 nn)],[.cells 0 [.int .i64 0,.int .i64 0,.int .i64 0,.sl true []],x.row a l,x.A2,x.A3,x.A4,x.A5]⟩->Ka s:=by
   intro x vP fs a l ds s hlay hR xL xk xn xm xc xF hfn hfd hlb hr
   have hdv:=(G7.funs_v (e:=G7.env0 L con) nn (a1,l1) (by simp only;omega) (by simp only;omega)).1
   rw [hfd] at hdv
   simp only [hfd] at hRT
   refine hKa.2.go (cK hr ?_)
   exact YA L hL con pn hcn hpn2 nn hn1 hn3 RT x vP fs a l ds hlay hR xL xk xn xm xc xF hfn hlb hdv hRT _ rfl
  clear hKa
  refine aJ (α:={p:List Fn × List (Nat × List T) × Nat × Int × Int // p.1.length<=nn/\FRx p.1 p.2.1/\(-1000 - 20*p.1.length<=p.2.2.2.2/\p.2.2.2.2<=1000)/\G7.funs (G7.env0 L con) nn (a1,l1)=(match G7.funs (G7.env0 L con) (nn - p.1.length) p.2.2.2 with|(l,s)=>(p.2.1++l,s))}) (fun p=>[(4,.ptr 0 0 0),(5,.ptr 1 0 0),(6,.int .i64 nn),(7,.int .i64 (p.1.1.length:Nat))]) (fun p=>HS L p.1.2.2.2.1 p.1.2.2.2.2 pn con p.1.2.2.1 p.1.1) (fun p=>nn - p.1.1.length) ⟨([],[],0,a1,l1),by simp,⟨rfl,fun j f d h=>by simp at h⟩,⟨by simp only [ak];omega,by simp only;omega⟩,by simp only [dm,ak,ba]⟩ (Weak.ref ⟨?_,.inl ?_⟩) ?_
  .simp only [wS,simprocAttr,ak];try exact rfl
  .simp only [wS,simprocAttr,HS];try exact rfl
  .rintro ⟨⟨fs,ds,vP,a2,l2⟩,hl,hR,hcnt,hinv⟩ K3 hK3
   simp only at hl hR hcnt hinv
   have hf:=hR.wf
   have e3:fs.length<nn->IntKind.i64.wrap ((fs.length:Int)+1)=(fs.length+1:Nat):=fun h=>aO (k:=fs.length) h (by omega)
   rcases fs with _|⟨f0,_|⟨f1,_|⟨f2,tl⟩⟩⟩
   .obtain rfl:ds=[]:=cu (by have:=hR.1;simpa using this.symm)
    simp only [HS,af,ak] at e3 hl hcnt hinv ⊢
    by_cases hlt:0<nn
    .have c1:decide ((0:Int)<(nn:Int))=true:=by simp;omega
     replace e3:=e3 hlt
     simp only [Int.natCast_add,jm,Nat.reduceAdd,Int.reduceAdd,cp,Int.zero_add] at e3
     have c1':decide (((0:Nat):Int)<(nn:Int))=true:=c1
     rw [show nn - 0=(nn - 1)+1 by omega,G7.funs] at hinv
     repeat' (first|(refine cC ?_;simp only [wS,simprocAttr,c1,c1',Int.natCast_zero,jm,HS,Fn.row,Fn.cells])|refine aH|fail)
     have hxc:MX.frame (⟨L,27,pn,0,0,.sl true [],con,.none,.none,.none,.none⟩:MX):=⟨hL,rfl,rfl,rfl,rfl,rfl⟩
     skip
     refine aW (dT (x:=(⟨L,27,pn,0,0,.sl true [],con,.none,.none,.none,.none⟩:MX)) (e:=G7.env0 L con) rfl hxc 3 (by decide)) a2 l2 (by refine ⟨?_,?_,?_,?_,?_⟩<;>((try simp only [wS,simprocAttr,HS,Fn.row,Fn.cells,MX.row]);try exact rfl)) ?_
     rintro z a3 l3 hz
     obtain ⟨hz1,hz2⟩:=G7.dr_b (by decide) hz
     have hz3:=G7.dr_2 hz
     simp only at hz3
     simp only [wS,simprocAttr,vI,HS,Fn.row,Fn.cells,MX.row]
     repeat' (first|(refine cC ?_;simp only [wS,simprocAttr,HS,Fn.row,Fn.cells,MX.row])|refine sI|fail)
     rename_i Kx hKx
     refine hKx.go ?_
     refine n8 [1,2,3,4] 8 (by kernel_rfl) (by kernel_rfl) (by kernel_rfl) ?_
     simp only [wS,simprocAttr,fQ,di,ci,HS,Fn.row,Fn.cells]
     repeat' (first|(refine cC ?_;simp only [wS,simprocAttr,HS,Fn.row,Fn.cells])|refine aH|fail)
     obtain ⟨pa,rfl⟩:∃ pa:Nat,z=pa:=⟨z.toNat,(dc hz1).symm⟩
     rcases hvs:G7.vars (G7.env0 L con) pa (a3,l3) with ⟨ts,a4,l4⟩
     have hvv:=G7.vars_v (e:=G7.env0 L con) pa (by omega) (a3,l3) (by simp only;omega) (by simp only;omega)
     rw [hvs] at hvv
     obtain ⟨w1',w2',w3',w4',w5',w6'⟩:=hvv
     simp only at w1' w2' w3' w4' w5' w6'
     simp only [hz,ax,hvs] at hinv
     refine cM (oT (e:=G7.env0 L con) (x:=(⟨L,27,pn,0,0,.sl true [],con,.none,.none,.none,.none⟩:MX)) rfl hxc (q:=2) (by simp [H9]) pa (by omega) (at0:=a3) (left:=l3) (by refine ⟨?_,?_,?_,?_,?_⟩<;>((try simp only [wS,simprocAttr,HS,Fn.row,Fn.cells,MX.row]);try exact rfl)) (by simp only [wS,simprocAttr,HS,Fn.row,Fn.cells];try exact rfl) ts a4 l4 hvs) ?_
     have hle:=T.encs_len ts
     try simp only [wS,simprocAttr,HS,Fn.row,Fn.cells,cF,cU,cE,MX.row]
     repeat' (first|(refine cC ?_;simp only [wS,simprocAttr,HS,Fn.row,Fn.cells,cF,cU,cE,MX.row])|refine aH|fail)
     refine aa (by
      change qX _ _ _ [(some 42,.nilCheck (.tmp 41),none),(some 43,.fieldAddr _ (.tmp 42) 3,none),(some 44,.fieldAddr _ (.tmp 43) 3,none),(some 45,.load _ (.tmp 44),none)]
      simp only [qX]
      refine ⟨?_,?_,?_,?_,trivial⟩<;>(simp only [wS,simprocAttr,pT,HS,Fn.row,Fn.cells,cF,cU,cE,MX.row];try exact rfl)) ?_
     try simp only [wS,simprocAttr,fQ,di,ci,fo,co,HS,Fn.row,Fn.cells,cF,cU,cE,MX.row]
     repeat' (first|(refine cC ?_;simp only [wS,simprocAttr,HS,Fn.row,Fn.cells,cF,cU,cE,MX.row])|refine aH|fail)
     refine tQ (app:=T.encs ts) (e:=blk) (by':=48) (by kernel_rfl) (by (simp only [wS,simprocAttr,HS,Fn.row,Fn.cells,cF,cU,cE,MX.row];try exact rfl)) (mI ts) rfl (by omega) ?_
     try simp only [wS,simprocAttr,HS,Fn.row,Fn.cells,cF,cU,cE,MX.row]
     repeat' (first|(refine cC ?_;simp only [wS,simprocAttr,HS,Fn.row,Fn.cells,cF,cU,cE,MX.row])|refine aH|fail)
     refine fO (es:=[]) (nb:=3) (sz:=4) (by':=48) (mm:=1) (new:=[.int .i64 0,.int .i64 0,.int .i64 0,.sl true []]) (by kernel_rfl) rfl rfl rfl (by decide) (by simp) ?_
     try simp only [wS,simprocAttr,HS,Fn.row,Fn.cells,cF,cU,cE,MX.row]
     repeat' (first|(refine cC ?_;simp only [wS,simprocAttr,HS,Fn.row,Fn.cells,cF,cU,cE,MX.row])|refine aH|fail)
     refine aa (show sR _ _ _ _=true by kernel_rfl) ?_
     repeat' (first|(refine cC ?_;simp only [wS,simprocAttr,HS,Fn.row,Fn.cells,cF,cU,cE,MX.row])|refine aH|fail)
     refine hK3.go ⟨([⟨(T.encs ts).length,false,pa,(T.encs ts).length,T.encs ts++[blk]⟩],[(pa,ts)],0,a4,l4),by simp only [af,ak];omega,hR.snoc (f:=⟨(T.encs ts).length,false,pa,(T.encs ts).length,T.encs ts++[blk]⟩) (d:=(pa,ts)) (FnR.new w1' w2' w3'),⟨by simp only [af,ak];omega,by simp only;omega⟩,by simpa only [af,ak,Nat.reduceAdd,dm,ba,ar] using hinv⟩ (Weak.ref ⟨?_,.inl ?_⟩) (by simp only [af,ak];omega)
     .simp only [wS,simprocAttr,e3,af,ak];try exact rfl
     .simp only [wS,simprocAttr,HS,Fn.row,Fn.cells,cF,cU,cE,MX.row,ei,cw,ey,bj,blk];try exact rfl
    .omega
   .have w0:=hf f0 (by simp)
    obtain ⟨d0,rfl⟩:∃ d0:Nat × List T,ds=[d0]:=by
     obtain ⟨h1,h2⟩:=hR
     rcases ds with _|⟨d0,_|⟨d1,t⟩⟩
     .cases h1
     .exact ⟨d0,rfl⟩
     .simp at h1
    simp only [HS,af,ak] at e3 hl hcnt hinv ⊢
    by_cases hlt:1<nn
    .have c1:decide ((1:Int)<(nn:Int))=true:=by simp;omega
     replace e3:=e3 hlt
     simp only [Int.natCast_add,jm,Nat.reduceAdd,Int.reduceAdd,cp,Int.zero_add] at e3
     have c1':decide (((1:Nat):Int)<(nn:Int))=true:=c1
     rw [show nn - 1=(nn - 2)+1 by omega,G7.funs] at hinv
     repeat' (first|(refine cC ?_;simp only [wS,simprocAttr,c1,c1',Int.natCast_zero,jm,HS,Fn.row,Fn.cells])|refine aH|fail)
     have hxc:MX.frame (⟨L,27,pn,0,0,.osl 3 vP 0 1 4 false,con,f0.row,.cells vP (f0.cells 2),.none,.none⟩:MX):=⟨hL,rfl,tI w0,rfl,rfl,rfl⟩
     skip
     refine aW (dT (x:=(⟨L,27,pn,0,0,.osl 3 vP 0 1 4 false,con,f0.row,.cells vP (f0.cells 2),.none,.none⟩:MX)) (e:=G7.env0 L con) rfl hxc 3 (by decide)) a2 l2 (by refine ⟨?_,?_,?_,?_,?_⟩<;>((try simp only [wS,simprocAttr,HS,Fn.row,Fn.cells,MX.row]);try exact rfl)) ?_
     rintro z a3 l3 hz
     obtain ⟨hz1,hz2⟩:=G7.dr_b (by decide) hz
     have hz3:=G7.dr_2 hz
     simp only at hz3
     simp only [wS,simprocAttr,vI,HS,Fn.row,Fn.cells,MX.row]
     repeat' (first|(refine cC ?_;simp only [wS,simprocAttr,HS,Fn.row,Fn.cells,MX.row])|refine sI|fail)
     rename_i Kx hKx
     refine hKx.go ?_
     refine n8 [1,2,3,4] 8 (by kernel_rfl) (by kernel_rfl) (by kernel_rfl) ?_
     simp only [wS,simprocAttr,fQ,di,ci,HS,Fn.row,Fn.cells]
     repeat' (first|(refine cC ?_;simp only [wS,simprocAttr,HS,Fn.row,Fn.cells])|refine aH|fail)
     obtain ⟨pa,rfl⟩:∃ pa:Nat,z=pa:=⟨z.toNat,(dc hz1).symm⟩
     rcases hvs:G7.vars (G7.env0 L con) pa (a3,l3) with ⟨ts,a4,l4⟩
     have hvv:=G7.vars_v (e:=G7.env0 L con) pa (by omega) (a3,l3) (by simp only;omega) (by simp only;omega)
     rw [hvs] at hvv
     obtain ⟨w1',w2',w3',w4',w5',w6'⟩:=hvv
     simp only at w1' w2' w3' w4' w5' w6'
     simp only [hz,ax,hvs] at hinv
     refine cM (oT (e:=G7.env0 L con) (x:=(⟨L,27,pn,0,0,.osl 3 vP 0 1 4 false,con,f0.row,.cells vP (f0.cells 2),.none,.none⟩:MX)) rfl hxc (q:=4) (by simp [H9]) pa (by omega) (at0:=a3) (left:=l3) (by refine ⟨?_,?_,?_,?_,?_⟩<;>((try simp only [wS,simprocAttr,HS,Fn.row,Fn.cells,MX.row]);try exact rfl)) (by simp only [wS,simprocAttr,HS,Fn.row,Fn.cells];try exact rfl) ts a4 l4 hvs) ?_
     have hle:=T.encs_len ts
     try simp only [wS,simprocAttr,HS,Fn.row,Fn.cells,cF,cU,cE,MX.row]
     repeat' (first|(refine cC ?_;simp only [wS,simprocAttr,HS,Fn.row,Fn.cells,cF,cU,cE,MX.row])|refine aH|fail)
     refine aa (by
      change qX _ _ _ [(some 42,.nilCheck (.tmp 41),none),(some 43,.fieldAddr _ (.tmp 42) 3,none),(some 44,.fieldAddr _ (.tmp 43) 3,none),(some 45,.load _ (.tmp 44),none)]
      simp only [qX]
      refine ⟨?_,?_,?_,?_,trivial⟩<;>(simp only [wS,simprocAttr,pT,HS,Fn.row,Fn.cells,cF,cU,cE,MX.row];try exact rfl)) ?_
     try simp only [wS,simprocAttr,fQ,di,ci,fo,co,HS,Fn.row,Fn.cells,cF,cU,cE,MX.row]
     repeat' (first|(refine cC ?_;simp only [wS,simprocAttr,HS,Fn.row,Fn.cells,cF,cU,cE,MX.row])|refine aH|fail)
     refine tQ (app:=T.encs ts) (e:=blk) (by':=48) (by kernel_rfl) (by (simp only [wS,simprocAttr,HS,Fn.row,Fn.cells,cF,cU,cE,MX.row];try exact rfl)) (mI ts) rfl (by omega) ?_
     try simp only [wS,simprocAttr,HS,Fn.row,Fn.cells,cF,cU,cE,MX.row]
     repeat' (first|(refine cC ?_;simp only [wS,simprocAttr,HS,Fn.row,Fn.cells,cF,cU,cE,MX.row])|refine aH|fail)
     refine lV (r:=3) (ver:=vP) (cs:=f0.cells 2) (len:=1) (sz:=4) (by':=48) (mm:=1) (new:=[.int .i64 0,.int .i64 0,.int .i64 0,.sl true []]) (by kernel_rfl) rfl rfl rfl (by decide) ?_
     try simp only [wS,simprocAttr,HS,Fn.row,Fn.cells,cF,cU,cE,MX.row]
     repeat' (first|(refine cC ?_;simp only [wS,simprocAttr,HS,Fn.row,Fn.cells,cF,cU,cE,MX.row])|refine aH|fail)
     refine aa (show sR _ _ _ _=true by kernel_rfl) ?_
     repeat' (first|(refine cC ?_;simp only [wS,simprocAttr,HS,Fn.row,Fn.cells,cF,cU,cE,MX.row])|refine aH|fail)
     refine hK3.go ⟨([f0,⟨(T.encs ts).length,false,pa,(T.encs ts).length,T.encs ts++[blk]⟩],[d0,(pa,ts)],vP+1,a4,l4),by simp only [af,ak];omega,hR.snoc (f:=⟨(T.encs ts).length,false,pa,(T.encs ts).length,T.encs ts++[blk]⟩) (d:=(pa,ts)) (FnR.new w1' w2' w3'),⟨by simp only [af,ak];omega,by simp only;omega⟩,by simpa only [af,ak,Nat.reduceAdd,dm,ba,ar] using hinv⟩ (Weak.ref ⟨?_,.inl ?_⟩) (by simp only [af,ak];omega)
     .simp only [wS,simprocAttr,e3,af,ak];try exact rfl
     .simp only [wS,simprocAttr,HS,Fn.row,Fn.cells,cF,cU,cE,MX.row,ei,cw,ey,bj,blk];try exact rfl
    .obtain rfl:nn=1:=by omega
     rw [show 1 - 1=0 by rfl,G7.funs] at hinv
     simp only [br] at hinv
     repeat' (first|(refine cC ?_;simp only [wS,simprocAttr,HS,Fn.row,Fn.cells])|refine aH|fail)
     refine key1 (⟨L,27,pn,0,0,.osl 3 vP 0 1 4 false,con,f0.row,(.cells vP (f0.cells 2)),.dead,.dead⟩) vP [f0] a2 l2 [d0] _ ⟨rfl,rfl,rfl,rfl,rfl⟩ hR rfl rfl rfl rfl rfl rfl (by simp only [af,ak]) hinv ⟨by omega,by omega⟩ ?_
     refine ((Ref.trans (s':=(⟨eJ [(4,.ptr 0 0 0),(5,.ptr 1 0 0),(6,.int .i64 (1:Nat))],[.cells 0 [.int .i64 0,.int .i64 0,.int .i64 0,.sl true []],.cells 0 [cY L,.int .i64 a2,.int .i64 l2,.int .i64 27,.int .i64 pn,.int .i64 0,.osl 3 vP 0 1 4 false,.int .i64 0,.bool con],f0.row,(.cells vP (f0.cells 2))]⟩:AS)) (Weak.ref ⟨?_,.inl ?_⟩) FN).trans FN)
     .exact aZ
     .simp only [wS,simprocAttr,HS,Fn.row,Fn.cells,MX.row];try exact rfl
   .have w0:=hf f0 (by simp)
    have w1:=hf f1 (by simp)
    obtain ⟨d0,d1,rfl⟩:∃ d0 d1:Nat × List T,ds=[d0,d1]:=by
     obtain ⟨h1,h2⟩:=hR
     rcases ds with _|⟨d0,_|⟨d1,_|⟨d2,t⟩⟩⟩
     .cases h1
     .simp at h1
     .exact ⟨d0,d1,rfl⟩
     .simp at h1
    simp only [HS,af,ak] at e3 hl hcnt hinv ⊢
    by_cases hlt:2<nn
    .have c1:decide ((2:Int)<(nn:Int))=true:=by simp;omega
     replace e3:=e3 hlt
     simp only [Int.natCast_add,jm,Nat.reduceAdd,Int.reduceAdd,cp,Int.zero_add] at e3
     have c1':decide (((2:Nat):Int)<(nn:Int))=true:=c1
     rw [show nn - 2=(nn - 3)+1 by omega,G7.funs] at hinv
     repeat' (first|(refine cC ?_;simp only [wS,simprocAttr,c1,c1',Int.natCast_zero,jm,HS,Fn.row,Fn.cells])|refine aH|fail)
     have hxc:MX.frame (⟨L,27,pn,0,0,.osl 3 vP 0 2 4 false,con,f0.row,.cells vP (f0.cells 2++f1.cells 4),f1.row,.none⟩:MX):=⟨hL,rfl,tI w0,rfl,tI w1,rfl⟩
     skip
     refine aW (dT (x:=(⟨L,27,pn,0,0,.osl 3 vP 0 2 4 false,con,f0.row,.cells vP (f0.cells 2++f1.cells 4),f1.row,.none⟩:MX)) (e:=G7.env0 L con) rfl hxc 3 (by decide)) a2 l2 (by refine ⟨?_,?_,?_,?_,?_⟩<;>((try simp only [wS,simprocAttr,HS,Fn.row,Fn.cells,MX.row]);try exact rfl)) ?_
     rintro z a3 l3 hz
     obtain ⟨hz1,hz2⟩:=G7.dr_b (by decide) hz
     have hz3:=G7.dr_2 hz
     simp only at hz3
     simp only [wS,simprocAttr,vI,HS,Fn.row,Fn.cells,MX.row]
     repeat' (first|(refine cC ?_;simp only [wS,simprocAttr,HS,Fn.row,Fn.cells,MX.row])|refine sI|fail)
     rename_i Kx hKx
     refine hKx.go ?_
     refine n8 [1,2,3,4] 8 (by kernel_rfl) (by kernel_rfl) (by kernel_rfl) ?_
     simp only [wS,simprocAttr,fQ,di,ci,HS,Fn.row,Fn.cells]
     repeat' (first|(refine cC ?_;simp only [wS,simprocAttr,HS,Fn.row,Fn.cells])|refine aH|fail)
     obtain ⟨pa,rfl⟩:∃ pa:Nat,z=pa:=⟨z.toNat,(dc hz1).symm⟩
     rcases hvs:G7.vars (G7.env0 L con) pa (a3,l3) with ⟨ts,a4,l4⟩
     have hvv:=G7.vars_v (e:=G7.env0 L con) pa (by omega) (a3,l3) (by simp only;omega) (by simp only;omega)
     rw [hvs] at hvv
     obtain ⟨w1',w2',w3',w4',w5',w6'⟩:=hvv
     simp only at w1' w2' w3' w4' w5' w6'
     simp only [hz,ax,hvs] at hinv
     refine cM (oT (e:=G7.env0 L con) (x:=(⟨L,27,pn,0,0,.osl 3 vP 0 2 4 false,con,f0.row,.cells vP (f0.cells 2++f1.cells 4),f1.row,.none⟩:MX)) rfl hxc (q:=5) (by simp [H9]) pa (by omega) (at0:=a3) (left:=l3) (by refine ⟨?_,?_,?_,?_,?_⟩<;>((try simp only [wS,simprocAttr,HS,Fn.row,Fn.cells,MX.row]);try exact rfl)) (by simp only [wS,simprocAttr,HS,Fn.row,Fn.cells];try exact rfl) ts a4 l4 hvs) ?_
     have hle:=T.encs_len ts
     try simp only [wS,simprocAttr,HS,Fn.row,Fn.cells,cF,cU,cE,MX.row]
     repeat' (first|(refine cC ?_;simp only [wS,simprocAttr,HS,Fn.row,Fn.cells,cF,cU,cE,MX.row])|refine aH|fail)
     refine aa (by
      change qX _ _ _ [(some 42,.nilCheck (.tmp 41),none),(some 43,.fieldAddr _ (.tmp 42) 3,none),(some 44,.fieldAddr _ (.tmp 43) 3,none),(some 45,.load _ (.tmp 44),none)]
      simp only [qX]
      refine ⟨?_,?_,?_,?_,trivial⟩<;>(simp only [wS,simprocAttr,pT,HS,Fn.row,Fn.cells,cF,cU,cE,MX.row];try exact rfl)) ?_
     try simp only [wS,simprocAttr,fQ,di,ci,fo,co,HS,Fn.row,Fn.cells,cF,cU,cE,MX.row]
     repeat' (first|(refine cC ?_;simp only [wS,simprocAttr,HS,Fn.row,Fn.cells,cF,cU,cE,MX.row])|refine aH|fail)
     refine tQ (app:=T.encs ts) (e:=blk) (by':=48) (by kernel_rfl) (by (simp only [wS,simprocAttr,HS,Fn.row,Fn.cells,cF,cU,cE,MX.row];try exact rfl)) (mI ts) rfl (by omega) ?_
     try simp only [wS,simprocAttr,HS,Fn.row,Fn.cells,cF,cU,cE,MX.row]
     repeat' (first|(refine cC ?_;simp only [wS,simprocAttr,HS,Fn.row,Fn.cells,cF,cU,cE,MX.row])|refine aH|fail)
     refine lV (r:=3) (ver:=vP) (cs:=f0.cells 2++f1.cells 4) (len:=2) (sz:=4) (by':=48) (mm:=1) (new:=[.int .i64 0,.int .i64 0,.int .i64 0,.sl true []]) (by kernel_rfl) rfl rfl rfl (by decide) ?_
     try simp only [wS,simprocAttr,HS,Fn.row,Fn.cells,cF,cU,cE,MX.row]
     repeat' (first|(refine cC ?_;simp only [wS,simprocAttr,HS,Fn.row,Fn.cells,cF,cU,cE,MX.row])|refine aH|fail)
     refine aa (show sR _ _ _ _=true by kernel_rfl) ?_
     repeat' (first|(refine cC ?_;simp only [wS,simprocAttr,HS,Fn.row,Fn.cells,cF,cU,cE,MX.row])|refine aH|fail)
     refine hK3.go ⟨([f0,f1,⟨(T.encs ts).length,false,pa,(T.encs ts).length,T.encs ts++[blk]⟩],[d0,d1,(pa,ts)],vP+1,a4,l4),by simp only [af,ak];omega,hR.snoc (f:=⟨(T.encs ts).length,false,pa,(T.encs ts).length,T.encs ts++[blk]⟩) (d:=(pa,ts)) (FnR.new w1' w2' w3'),⟨by simp only [af,ak];omega,by simp only;omega⟩,by simpa only [af,ak,Nat.reduceAdd,dm,ba,ar] using hinv⟩ (Weak.ref ⟨?_,.inl ?_⟩) (by simp only [af,ak];omega)
     .simp only [wS,simprocAttr,e3,af,ak];try exact rfl
     .simp only [wS,simprocAttr,HS,Fn.row,Fn.cells,cF,cU,cE,MX.row,ei,cw,ey,bj,blk];try exact rfl
    .obtain rfl:nn=2:=by omega
     rw [show 2 - 2=0 by rfl,G7.funs] at hinv
     simp only [br] at hinv
     repeat' (first|(refine cC ?_;simp only [wS,simprocAttr,HS,Fn.row,Fn.cells])|refine aH|fail)
     refine key1 (⟨L,27,pn,0,0,.osl 3 vP 0 2 4 false,con,f0.row,(.cells vP (f0.cells 2++f1.cells 4)),f1.row,.dead⟩) vP [f0,f1] a2 l2 [d0,d1] _ ⟨rfl,rfl,rfl,rfl,rfl⟩ hR rfl rfl rfl rfl rfl rfl (by simp only [af,ak]) hinv ⟨by omega,by omega⟩ ?_
     refine (Ref.trans (s':=(⟨eJ [(4,.ptr 0 0 0),(5,.ptr 1 0 0),(6,.int .i64 (2:Nat))],[.cells 0 [.int .i64 0,.int .i64 0,.int .i64 0,.sl true []],.cells 0 [cY L,.int .i64 a2,.int .i64 l2,.int .i64 27,.int .i64 pn,.int .i64 0,.osl 3 vP 0 2 4 false,.int .i64 0,.bool con],f0.row,(.cells vP (f0.cells 2++f1.cells 4)),f1.row]⟩:AS)) (Weak.ref ⟨?_,.inl ?_⟩) FN)
     .exact aZ
     .simp only [wS,simprocAttr,HS,Fn.row,Fn.cells,MX.row];try exact rfl
   .obtain rfl:tl=[]:=by
     cases tl with
     |nil=>rfl
     |cons=>simp only [af] at hl;omega
    have w0:=hf f0 (by simp)
    have w1:=hf f1 (by simp)
    have w2:=hf f2 (by simp)
    obtain ⟨d0,d1,d2,rfl⟩:∃ d0 d1 d2:Nat × List T,ds=[d0,d1,d2]:=by
     obtain ⟨h1,h2⟩:=hR
     rcases ds with _|⟨d0,_|⟨d1,_|⟨d2,_|⟨d3,t⟩⟩⟩⟩
     .cases h1
     .simp at h1
     .simp at h1
     .exact ⟨d0,d1,d2,rfl⟩
     .simp at h1
    simp only [HS,af,ak] at e3 hl hcnt hinv ⊢
    have hlt:¬ 3<nn:=by omega
    .obtain rfl:nn=3:=by omega
     rw [show 3 - 3=0 by rfl,G7.funs] at hinv
     simp only [br] at hinv
     repeat' (first|(refine cC ?_;simp only [wS,simprocAttr,HS,Fn.row,Fn.cells])|refine aH|fail)
     refine key1 (⟨L,27,pn,0,0,.osl 3 vP 0 3 4 false,con,f0.row,(.cells vP (f0.cells 2++(f1.cells 4++f2.cells 5))),f1.row,f2.row⟩) vP [f0,f1,f2] a2 l2 [d0,d1,d2] _ ⟨rfl,rfl,rfl,rfl,rfl⟩ hR rfl rfl rfl rfl rfl rfl (by simp only [af,ak]) hinv ⟨by omega,by omega⟩ ?_
     refine (Weak.ref ⟨?_,.inl ?_⟩)
     .exact aZ
     .simp only [wS,simprocAttr,HS,Fn.row,Fn.cells,MX.row];try exact rfl
 cases con with
 |false=>
  refine aF
  refine key0 0 32 0 _ (fun h=>by cases h) (by decide) rfl (by decide) (Weak.ref ⟨?_,.inl ?_⟩)
  .exact aZ
  .simp only [wS,simprocAttr,he];try exact rfl
 |true=>
  refine aF
  refine aW (dT (x:=⟨L,27,0,0,0,.sl true [],true,.none,.none,.none,.none⟩) (e:=G7.env0 L true) rfl ⟨hL,rfl,rfl,rfl,rfl,rfl⟩ 2 (by decide)) 0 32 (by refine ⟨?_,?_,?_,?_,?_⟩<;>((try simp only [wS,simprocAttr,he,MX.row]);try exact rfl)) ?_
  rintro z a1 l1 hz
  obtain ⟨hz1,hz2⟩:=G7.dr_b (by decide) hz
  have hz3:=G7.dr_2 hz
  simp only at hz3
  have ez:IntKind.i64.wrap (1+z)=1+z:=bC (by omega) (by omega)
  simp only [wS,simprocAttr,ez,MX.row,vI]
  repeat' (first|(refine cC ?_;simp only [wS,simprocAttr,ez,MX.row])|refine aH|fail)
  refine key0 a1 36 (1+z) _ (fun h=>by omega) (by omega) (by rw [G7.start];simp only [hz]) (by decide) (Weak.ref ⟨?_,.inl ?_⟩)
  .exact aZ
  .simp only [wS,simprocAttr,he];try exact rfl
end Go.Proofs.YtggflhbigolakaaGreatDoor
