import Derived.Test.YtggflhbigolakaaGreatDoorYC
import Derived.Test.YtggflhbigolakaaGreatDoorN2
set_option linter.unusedSimpArgs false
namespace Go.Proofs.YtggflhbigolakaaGreatDoor
open Go.AM
attribute [local irreducible] cG bG bI bL bW bZ aQ aV bN
set_option maxRecDepth 100000
namespace G7
def blk (st:St->T × St):Nat->St->List T × St
 |0,s=>([],s)
 |n+1,s=>if s.2 > 2 then (match st s with
  |(t,s1)=>match blk st n s1 with
   |(l,s2)=>(t::l,s2)) else ([],s)
def blockS (e:Env) (st:St->T × St) (most:Int) (s:St):T × St:=match dr e most s with
 |(z,s1)=>match blk st (1+z).toNat s1 with
  |(l,s2)=>nd 13 0 l s2
end G7
set_option maxHeartbeats 8000000 in
theorem PW {x:MX} {e:G7.Env} (hx:x.ok) (hL:x.L=e.L) (depth most:Int) (hm1:0<most) (hm2:most<=6) (st:St->T × St) (hS:rK x 126 [.int .i64 depth] vT st):rK x 104 [.int .i64 depth,.int .i64 most] vT (G7.blockS e st most):=by
 refine eC hx.fr Tryz.func104 rfl (by kernel_rfl) (by simp [Tryz.ntmps104]) rfl fun at0 left=>?_
 simp only [Tryz.ntmps104,aK,Nat.reduceAdd,MX.row]
 refine aF
 refine aW (dT hL hx.fr most hm1) at0 left (by refine ⟨?_,?_,?_,?_,?_⟩<;>((try simp only [wS,simprocAttr,eO,MX.row]);try exact rfl)) ?_
 rintro z at1 left1 hz
 obtain ⟨hz1,hz2⟩:=G7.dr_b hm1 hz
 have ez:IntKind.i64.wrap (1+z)=1+z:=bC (by omega) (by omega)
 obtain ⟨nn,hnn⟩:∃ nn:Nat,1+z=nn:=⟨(1+z).toNat,(dc (by omega)).symm⟩
 have ez':IntKind.i64.wrap (nn:Int)=nn:=bC (by omega) (by omega)
 have hend:∀ ts a2 l2 t a l,G7.blk st nn (at1,left1)=(ts,(a2,l2))->G7.nd 13 0 ts (a2,l2)=(t,(a,l))->G7.blockS e st most (at0,left)=(t,(a,l)):=fun ts a2 l2 t a l h1 h2=>by
  rw [G7.blockS,hz]
  simp only [hnn,ax,h1,h2]
 simp only [wS,simprocAttr,hnn,ez',MX.row,vI]
 repeat' (first|(refine cC ?_;simp only [wS,simprocAttr,MX.row,hnn,ez'])|refine aH|fail)
 rename_i Ka hKa Kb hKb
 replace hKa:=aa trivial hKa
 refine aJ (α:={p:List T × Int × Int // p.1.length<=nn/\G7.blk st nn (at1,left1)=(match G7.blk st (nn - p.1.length) p.2 with|(l,s)=>(p.1++l,s))}) (fun p=>[(0,.ptr 1 0 0),(1,.int .i64 depth),(6,.ptr 6 0 0),(7,hU [] 7 4 (T.encs p.1.1)),(8,.int .i64 nn),(9,.int .i64 (p.1.1.length:Nat))]) (fun p=>eF [.dead,.cells 0 [cY x.L,.int .i64 (p.1.2.1),.int .i64 (p.1.2.2),.int .i64 x.pk,.int .i64 x.pn,.int .i64 x.pm,x.kv,.int .i64 x.F,.bool x.con],x.A2,x.A3,x.A4,x.A5,.cells 0 [.int .i64 0,.int .i64 0,.int .i64 0,.sl true []]] [] (T.encs p.1.1)) (fun p=>nn - p.1.1.length) ⟨([],at1,left1),az _,by simp only [dm,ak,ba]⟩ (Weak.ref ⟨?_,.inl ?_⟩) ?_
 .simp only [wS,simprocAttr,T.encs,m7];try exact rfl
 .simp only [wS,simprocAttr,T.encs,eF,if_true];try exact rfl
 .rintro ⟨⟨ts,a2,l2⟩,hl,hinv⟩ K3 hK3
  simp only at hl hinv
  have htr:=T.encs_tree ts
  have hl4:=mI ts
  have hle:=T.encs_len ts
  by_cases hlt:ts.length<nn
  .have c1:decide (((ts.length:Nat):Int)<((nn:Nat):Int))=true:=by simp;omega
   have e3:=aO (k:=ts.length) hlt (by omega)
   rw [show nn - ts.length=(nn - (ts.length+1))+1 by omega,G7.blk] at hinv
   repeat' (first|(refine cC ?_;simp only [wS,simprocAttr,eO,MX.row,c1])|refine aH|fail)
   refine aa (fun h=>?_) (fun h=>?_)
   .simp only [decide_eq_true_eq] at h
    simp only [h,if_true] at hinv
    repeat' (first|(refine cC ?_;simp only [wS,simprocAttr,eO,MX.row])|refine aH|fail)
    refine aW hS a2 l2 (by refine ⟨?_,?_,?_,?_,?_⟩<;>((try simp only [wS,simprocAttr,eO,MX.row]);try exact rfl)) ?_
    rintro ⟨k1,n1,m1,es1⟩ a3 l3 he
    simp only [he] at hinv
    simp only [wS,simprocAttr,MX.row,vT,T.enc,kN,eO]
    refine wY (H:=[.dead,.cells 0 [cY x.L,.int .i64 (a3),.int .i64 (l3),.int .i64 x.pk,.int .i64 x.pn,.int .i64 x.pm,x.kv,.int .i64 x.F,.bool x.con],x.A2,x.A3,x.A4,x.A5,.cells 0 [.int .i64 0,.int .i64 0,.int .i64 0,.sl true []]]) (base:=[]) (app:=T.encs ts) (e:=[.int .i64 k1,.int .i64 n1,.int .i64 m1,.sl false (T.encs es1)]) (by':=48) (by kernel_rfl) rfl (wM (by simp)) rfl (by simpa using hl4) (by simp [cW]) (by simp only [ak,hle];omega) ?_
    have hac:=qQ [.dead,.cells 0 [cY x.L,.int .i64 (a3),.int .i64 (l3),.int .i64 x.pk,.int .i64 x.pn,.int .i64 x.pm,x.kv,.int .i64 x.F,.bool x.con],x.A2,x.A3,x.A4,x.A5,.cells 0 [.int .i64 0,.int .i64 0,.int .i64 0,.sl true []]] [] (T.encs ts) [.int .i64 k1,.int .i64 n1,.int .i64 m1,.sl false (T.encs es1)]
    rw [<- fB] at hac
    simp only [af,ak,Nat.reduceAdd] at hac
    rw [<- fB]
    simp only [wS,simprocAttr,MX.row]
    refine aR e3
    refine hK3.go ⟨(ts++[T.mk k1 n1 m1 es1],a3,l3),by simp;omega,by rw [hinv,an,am];simp only [bj,dw]⟩ (Weak.ref ⟨?_,.inl ?_⟩) (by simp;omega)
    .simp only [wS,simprocAttr,an,am];try exact rfl
    .simp only [wS,simprocAttr,kN,MX.row,hac];try exact rfl
   .simp only [decide_eq_false_iff_not] at h
    simp only [h,if_false,br] at hinv
    refine aF
    refine hKa.2.go (cK (OI (H:=[.dead,.cells 0 [cY x.L,.int .i64 (a2),.int .i64 (l2),.int .i64 x.pk,.int .i64 x.pn,.int .i64 x.pm,x.kv,.int .i64 x.F,.bool x.con],x.A2,x.A3,x.A4,x.A5,.cells 0 [.int .i64 0,.int .i64 0,.int .i64 0,.sl true []]]) (sz:=4) (t:=7) (app:=T.encs ts) [(0,.ptr 1 0 0),(6,.ptr 6 0 0)] (by simp) ?_ ?_ hl4 htr ?_ (by simp [aI]) (PF hx.fr a2 l2 [.cells 0 [.int .i64 0,.int .i64 0,.int .i64 0,.sl true []]] 7 (by decide) rfl)) ?_)
    .simp only [wS,simprocAttr,MX.row];try exact rfl
    .exact aZ
    .exact aZ
    repeat' (first|(refine cC ?_;simp only [wS,simprocAttr,MX.row])|refine aH|fail)
    refine aW (gN hx.fr 13 0 false (T.encs ts) ts (hZ ts) htr) a2 l2 (by refine ⟨?_,?_,?_,?_,?_⟩<;>((try simp only [wS,simprocAttr,eO,MX.row]);try exact rfl)) ?_
    rintro ⟨k1,n1,m1,es1⟩ a4 l4 he
    simp only [wS,simprocAttr,MX.row,vT,T.enc]
    refine aF
    refine eM (x:=x) (at0:=at0) (left:=left) (val:=vT) (g:=G7.blockS e st most) rfl (by simp only [wS,simprocAttr,MX.row];try exact rfl) (by refine ⟨?_,?_,?_,?_,?_⟩<;>((try simp only [wS,simprocAttr,eO,MX.row]);try exact rfl)) ?_ (hend _ _ _ _ _ _ hinv he) (.inl rfl)
    simp only [vT,T.enc,aI,aP,T.encs_tree,ai]
  .have c1:decide (((ts.length:Nat):Int)<((nn:Nat):Int))=false:=by simp;omega
   rw [show nn - ts.length=0 by omega,G7.blk] at hinv
   simp only [br] at hinv
   repeat' (first|(refine cC ?_;simp only [wS,simprocAttr,eO,MX.row,c1])|refine aH|fail)
   refine aF
   refine hKa.2.go (cK (OI (H:=[.dead,.cells 0 [cY x.L,.int .i64 (a2),.int .i64 (l2),.int .i64 x.pk,.int .i64 x.pn,.int .i64 x.pm,x.kv,.int .i64 x.F,.bool x.con],x.A2,x.A3,x.A4,x.A5,.cells 0 [.int .i64 0,.int .i64 0,.int .i64 0,.sl true []]]) (sz:=4) (t:=7) (app:=T.encs ts) [(0,.ptr 1 0 0),(6,.ptr 6 0 0)] (by simp) ?_ ?_ hl4 htr ?_ (by simp [aI]) (PF hx.fr a2 l2 [.cells 0 [.int .i64 0,.int .i64 0,.int .i64 0,.sl true []]] 7 (by decide) rfl)) ?_)
   .simp only [wS,simprocAttr,MX.row];try exact rfl
   .exact aZ
   .exact aZ
   repeat' (first|(refine cC ?_;simp only [wS,simprocAttr,MX.row])|refine aH|fail)
   refine aW (gN hx.fr 13 0 false (T.encs ts) ts (hZ ts) htr) a2 l2 (by refine ⟨?_,?_,?_,?_,?_⟩<;>((try simp only [wS,simprocAttr,eO,MX.row]);try exact rfl)) ?_
   rintro ⟨k1,n1,m1,es1⟩ a4 l4 he
   simp only [wS,simprocAttr,MX.row,vT,T.enc]
   refine aF
   refine eM (x:=x) (at0:=at0) (left:=left) (val:=vT) (g:=G7.blockS e st most) rfl (by simp only [wS,simprocAttr,MX.row];try exact rfl) (by refine ⟨?_,?_,?_,?_,?_⟩<;>((try simp only [wS,simprocAttr,eO,MX.row]);try exact rfl)) ?_ (hend _ _ _ _ _ _ hinv he) (.inl rfl)
   simp only [vT,T.enc,aI,aP,T.encs_tree,ai]
namespace G7
def recs (e : Env) : Nat -> St -> List T × St
 |0,s=>([],s)
 |n+1,s=>match dr e 2 s with
  |(y,s1)=>match nd y 0 [] s1 with
   |(t,s2)=>match recs e n s2 with
    |(l,s3)=>(t::l,s3)
def one (e : Env) (w : Int) (s : St) : T × St :=
 if w<4 then nd 0 0 [] s
 else if w==4 then nd 1 0 [] s
 else if w<7 then (match dr e 4 s with
  |(t,s1)=>nd 2 (IntKind.i64.wrap (1+t)) [] s1)
 else match dr e 2 s with
  | (u, s1) => match nd u 0 [] s1 with
   |(a,s2)=>match dr e 3 s2 with
    |(n,s3)=>match recs e n.toNat s3 with
     |(l,s4)=>nd 3 0 (a::l) s4
def vloop (e : Env) (params : Nat) : Nat -> Nat -> St -> List T × St
 |0,_,s=>([],s)
 |n+1,i,s=>match dr e 8 s with
  |(w,s1)=>match one e (if i<params then w.tmod 5 else w) s1 with
   |(t,s2)=>match vloop e params n (i+1) s2 with
    |(l,s3)=>(t::l,s3)
def vars (e:Env) (params:Nat) (s:St):List T × St:=match dr e 4 s with
 |(more,s1)=>vloop e params ((params:Int)+more).toNat 0 s1
theorem C3 (e:Env) (params:Nat):∀ (n i:Nat) (s:St),(vloop e params n i s).1.length=n
 |0,i,s=>rfl
 |n+1,i,s=>by rw [vloop];simp only [af,C3 e params n]
theorem S5 (e:Env) (params:Nat) (s:St):params<=(vars e params s).1.length/\(vars e params s).1.length<=params+3:=by
 rw [vars]
 rcases hd:dr e 4 s with ⟨more,s1⟩
 have:=dr_b (by decide) hd
 simp only [C3]
 omega
end G7
set_option maxHeartbeats 8000000 in
theorem oT {x : MX} {e : G7.Env} (hL : x.L = e.L) (hx : x.frame) {q : Nat} (hq : H9 q) (params : Nat) (hpar : params <= 2) {rows : Nat -> ARow} {at0 left : Int} (hr : MR x rows at0 left) (hnone : rows q = .none) (ts : List T) (a l : Int) (hv : G7.vars e params (at0, left) = (ts, (a, l))) : c8 Tryz.prog G0 103 [.ptr 1 0 0, .int .i64 params] rows [1, 2, 3, 4, 5] ⟨rv q ((T.encs ts).length - 1) 4 (T.encs ts), [(1, x.row a l), (q, eX ((T.encs ts).length - 1) (T.encs ts))]⟩ := by
 have hxn:oQ x at0 left=oQ (sq x q .none) at0 left:=by rw [XH hq hr hnone]
 have hq6:decide (q<6)=true:=by rcases hq with rfl|rfl|rfl<;>rfl
 have hqc:(([1,2,3,4,5]:List Nat).contains q)=true:=by rcases hq with rfl|rfl|rfl<;>rfl
 have hrvi:∀ (ts:List T),aG mH (eX ((T.encs ts).length - 1) (T.encs ts))=true:=fun ts=>bA (aB (T.encs_tree ts))
 have hqf:∀ (ts:List T),(sq x q (eX ((T.encs ts).length - 1) (T.encs ts))).frame:=fun ts=>T1 hx (hrvi ts)
 have hfn:(sq x q .none).frame:=T1 hx rfl
 refine bT (oQ x at0 left) bX Tryz.func103 rfl (by kernel_rfl) (by simp [Tryz.ntmps103]) hr.get MR.dead (by simp [aP,aI,oQ]) (fun r h=>bJ (gZ (by simp [oQ])) (hr.ins hx r h)) ?_ ?_ ?_
 .intro r hm h
  replace hm:=aC hm
  rw [b9] at h
  omega
 .intro p hp
  replace hp:=aC hp
  rcases hp with rfl|rfl
  .simp
  .simpa using hqc
 .simp only [Tryz.ntmps103, aK, Nat.reduceAdd, hxn, b9]
  refine aF
  refine aW (dT (x:=sq x q .none) hL hfn 4 (by decide)) at0 left (by refine ⟨?_,?_,?_,?_,?_⟩<;>exact rfl) ?_
  rintro more at1 left1 hmo
  obtain ⟨hm1,hm2⟩:=G7.dr_b (by decide) hmo
  simp only [wS,simprocAttr,vI,dU hq,dW hq,cD hq,b8,dX,b9]
  repeat' (first|(refine cC ?_;simp only [wS,simprocAttr,dU hq,dW hq,cD hq,b8,dX,b9])|refine aH|fail)
  obtain ⟨tot,htot⟩:∃ tot:Nat,(params:Int)+more=tot:=⟨((params:Int)+more).toNat,(dc (by omega)).symm⟩
  have ew:IntKind.i64.wrap (tot:Int)=tot:=bC (by omega) (by omega)
  rw [G7.vars,hmo] at hv
  simp only [htot,ax] at hv
  refine aJ (α:={p:List T × Int × Int // p.1.length<=tot/\G7.vloop e params tot 0 (at1,left1)=(match G7.vloop e params (tot - p.1.length) p.1.length p.2 with|(l,s)=>(p.1++l,s))}) (fun p=>[(0,.ptr 1 0 0),(1,.int .i64 params),(5,rv q ((T.encs p.1.1).length - 1) 4 (T.encs p.1.1)),(6,.int .i64 more),(7,.int .i64 (p.1.1.length:Nat))]) (fun p=>oQ (sq x q (eX ((T.encs p.1.1).length - 1) (T.encs p.1.1))) p.1.2.1 p.1.2.2) (fun p=>tot - p.1.1.length) ⟨([],at1,left1),az _,by simp only [dm,ak,ba]⟩ (cA [] (fun r=>decide (r<6)) bX (by simp) ?_ ?_ ?_) ?_
  .simp only [wS,simprocAttr,dL,iD,eI,T.encs,ak,dU hq,dW hq,cD hq,b8,dX,b9]
   exact .toRsv
  .simp only [bg,bz,ab,T.encs,eI,aI,hq6,ai,decide_true,Nat.reduceLT]
  .simp only [wS,simprocAttr,dU hq,dW hq,cD hq,b8,dX,b9,T.encs,eG]
   exact aA2 hfn
  .rintro ⟨⟨ts,a2,l2⟩,hl,hinv⟩ K3 hK3
   simp only at hl hinv
   have hfr:=hqf ts
   have hLL:(sq x q (eX ((T.encs ts).length - 1) (T.encs ts))).L=e.L:=hL
   have hle:=T.encs_len ts
   by_cases hlt:ts.length<tot
   .have c1 : decide (((ts.length : Nat) : Int) < ((tot : Nat) : Int)) = true := by simp; omega
    have e3:=aO (k:=ts.length) hlt (by omega)
    rw [show tot - ts.length=(tot - (ts.length+1))+1 by omega,G7.vloop] at hinv
    repeat' (first|(refine cC ?_;simp only [wS,simprocAttr,dU hq,dW hq,cD hq,b8,dX,b9,htot,ew,c1])|refine aH|fail)
    refine aW (dT hLL hfr 8 (by decide)) a2 l2 (by refine ⟨?_,?_,?_,?_,?_⟩<;>exact rfl) ?_
    rintro w0 a3 l3 hw
    obtain ⟨hw1,hw2⟩:=G7.dr_b (by decide) hw
    simp only [hw] at hinv
    simp only [wS,simprocAttr,dU hq,dW hq,cD hq,b8,dX,b9,vI]
    repeat' (first|(refine cC ?_;simp only [wS,simprocAttr,dU hq,dW hq,cD hq,b8,dX,b9])|refine sI|fail)
    rename_i Kr hKr Kb hKb
    refine hKb.go ?_
    refine cR fun K5 hK5=>?_
    replace hK5:=aa trivial hK5
    clear hKb
    have key : ∀ (w : Int) (s : AS), w = (if ts.length < params then w0.tmod 5 else w0) -> Ref G0 79 6 s ⟨eJ [(0, .ptr 1 0 0), (1, .int .i64 params), (5, rv q ((T.encs ts).length - 1) 4 (T.encs ts)), (6, .int .i64 more), (7, .int .i64 (ts.length : Nat)), (8, .int .i64 w)], oQ (sq x q (eX ((T.encs ts).length - 1) (T.encs ts))) a3 l3⟩ -> K5 s := by
     intro w s hww hr
     refine hK5.2.go (cK hr ?_)
     clear hr hK5
     rw [<- hww] at hinv
     have hnext:∀ t a4 l4,G7.one e w (a3,l3)=(t,(a4,l4))->G7.vloop e params tot 0 (at1,left1)=(match G7.vloop e params (tot - (ts++[t]).length) (ts++[t]).length (a4,l4) with|(l,s)=>(ts++[t]++l,s)):=fun t a4 l4 h=>by
      rw [hinv,an,am]
      simp only [h,bj,dw]
     have hF:True:=trivial
     have hg:True:=trivial
     repeat' (first|with_reducible refine WO fun _ _=>?_|with_reducible refine LX ?_|((first|with_reducible refine SH ?_|with_reducible refine SG ?_|with_reducible refine WN fun _ _ _ _=>?_)<;>simp only [wS,simprocAttr,dU hq,dW hq,cD hq,b8,dX,b9,dY,vI,vT,T.enc,T.encs,e3])|(with_reducible refine SF (fun hg=>?_) (fun hg=>?_)<;>simp only [hg,wS,simprocAttr,dU hq,dW hq,cD hq,b8,dX,b9,dY,vI,vT,T.enc,T.encs,e3]<;>((try simp only [decide_eq_true_eq,decide_eq_false_iff_not] at hg);replace hF:=aa hF hg))|((first|with_reducible refine LT ?_|with_reducible refine LV ?_|with_reducible refine LU ?_);try simp only [wE,simprocAttr])|with_reducible refine X3 ?_|with_reducible refine X2 ?_|(refine aW (dT hLL hfr 2 (by decide)) _ _ (by first|exact nQ|exact nP|exact nO|(refine ⟨?_,?_,?_,?_,?_⟩<;>exact rfl)) ?_;rintro u a1 l1 he;replace hF:=aa hF he;simp only [wS,simprocAttr,dU hq,dW hq,cD hq,b8,dX,b9,dY,vI,vT,T.enc,T.encs,e3])|(refine aW (dT hLL hfr 3 (by decide)) _ _ (by first|exact nQ|exact nP|exact nO|(refine ⟨?_,?_,?_,?_,?_⟩<;>exact rfl)) ?_;rintro z a1 l1 he;replace hF:=aa hF he;obtain ⟨hz1,hz2⟩:=G7.dr_b (by decide) he;simp only [wS,simprocAttr,dU hq,dW hq,cD hq,b8,dX,b9,dY,vI,vT,T.enc,T.encs,e3])|(refine aW (dT hLL hfr 4 (by decide)) _ _ (by first|exact nQ|exact nP|exact nO|(refine ⟨?_,?_,?_,?_,?_⟩<;>exact rfl)) ?_;rintro t a1 l1 he;replace hF:=aa hF he;simp only [wS,simprocAttr,dU hq,dW hq,cD hq,b8,dX,b9,dY,vI,vT,T.enc,T.encs,e3])|(refine aW (gN hfr _ _ _ _ [] rfl rfl) _ _ (by first|exact nQ|exact nP|exact nO|(refine ⟨?_,?_,?_,?_,?_⟩<;>exact rfl)) ?_;rintro ⟨k1,n1,m1,es1⟩ a1 l1 he;replace hF:=aa hF he;simp only [wS,simprocAttr,dU hq,dW hq,cD hq,b8,dX,b9,dY,vI,vT,T.enc,T.encs,e3])|(refine tQ (app:=(T.encs ts)) (by':=48) (by kernel_rfl) (by (simp only [wS,simprocAttr,dU hq,dW hq,cD hq,b8,dX,b9];try exact rfl)) (mI ts) rfl (by omega) ?_;simp only [wS,simprocAttr,dU hq,dW hq,cD hq,b8,dX,b9,dY,vI,vT,T.enc,T.encs,e3])|(with_reducible refine aa (fun hg=>?_) (fun hg=>?_)<;>((try simp only [hg]);(try simp only [decide_eq_true_eq,decide_eq_false_iff_not] at hg);replace hF:=aa hF hg))|with_reducible refine aa (by kernel_rfl) ?_)
     .refine hK3.go ⟨(ts++[T.mk k1 n1 m1 es1],a1,l1),by simp only [an,am];omega,hnext _ _ _ (by simp only [G7.one,ax,hF,decide_true,decide_false,if_true,if_false,aw];try exact rfl)⟩ (Weak.ref ⟨?_,.inl ?_⟩) (by simp only [an,am];omega)
      .simp only [wS,simprocAttr,fB,an,am,cj,T.encs];try exact rfl
      .simp only [wS,simprocAttr,dU hq,dW hq,cD hq,b8,dX,b9,fB,an,am,cj,T.encs];try exact rfl
     .refine hK3.go ⟨(ts++[T.mk k1 n1 m1 es1],a1,l1),by simp only [an,am];omega,hnext _ _ _ (by simp only [G7.one,ax,hF,decide_true,decide_false,if_true,if_false,aw];try exact rfl)⟩ (Weak.ref ⟨?_,.inl ?_⟩) (by simp only [an,am];omega)
      .simp only [wS,simprocAttr,fB,an,am,cj,T.encs];try exact rfl
      .simp only [wS,simprocAttr,dU hq,dW hq,cD hq,b8,dX,b9,fB,an,am,cj,T.encs];try exact rfl
     .refine hK3.go ⟨(ts++[T.mk k1 n1 m1 es1],a1,l1),by simp only [an,am];omega,hnext _ _ _ (by simp only [G7.one,ax,hF,decide_true,decide_false,if_true,if_false,aw];try exact rfl)⟩ (Weak.ref ⟨?_,.inl ?_⟩) (by simp only [an,am];omega)
      .simp only [wS,simprocAttr,fB,an,am,cj,T.encs];try exact rfl
      .simp only [wS,simprocAttr,dU hq,dW hq,cD hq,b8,dX,b9,fB,an,am,cj,T.encs];try exact rfl
     .obtain ⟨nk,rfl⟩:∃ nk:Nat,z=nk:=⟨z.toNat,(dc hz1).symm⟩
      rename_i Ka hKa Kb hKb
      replace hKa:=aa trivial hKa
      clear hKb
      refine aJ (α:={p:List T × Int × Int // p.1.length<=nk/\G7.recs e nk (a1,l1)=(match G7.recs e (nk - p.1.length) p.2 with|(l,s)=>(p.1++l,s))}) (fun p=>[(0,.ptr 1 0 0),(1,.int .i64 params),(5,rv q ((T.encs ts).length - 1) 4 (T.encs ts)),(6,.int .i64 more),(7,.int .i64 (ts.length:Nat)),(9,hU [[.int .i64 k1,.int .i64 n1,.int .i64 m1,.sl false (T.encs es1)]] 6 4 (T.encs p.1.1)),(10,.int .i64 ((nk:Int) - (p.1.1.length:Nat)))]) (fun p=>eF (oQ (sq x q (eX ((T.encs ts).length - 1) (T.encs ts))) p.1.2.1 p.1.2.2) [[.int .i64 k1,.int .i64 n1,.int .i64 m1,.sl false (T.encs es1)]] (T.encs p.1.1)) (fun p=>nk - p.1.1.length) ⟨([],a1,l1),az _,by simp only [dm,ak,ba]⟩ (Weak.ref ⟨?_,.inl ?_⟩) ?_
      .simp only [wS,simprocAttr,m7,ak,Int.natCast_zero,Int.sub_zero,T.encs];try exact rfl
      .simp only [wS,simprocAttr,dU hq,dW hq,cD hq,b8,dX,b9,NI,T.encs];try exact rfl
      .rintro ⟨⟨ks,a6,l6⟩,hkl,hkinv⟩ K9 hK9
       simp only at hkl hkinv
       have hk4:=mI ks
       have hkt:=T.encs_tree ks
       have hkln:=T.encs_len ks
       by_cases hlk:ks.length<nk
       .have c2:decide ((nk:Int) - (ks.length:Nat) > 0)=true:=by simp;omega
        have e4:IntKind.i64.wrap ((nk:Int) - (ks.length:Nat) - 1)=(nk:Int) - (ks.length+1:Nat):=by rw [bC (by omega) (by omega)];omega
        rw [show nk - ks.length=(nk - (ks.length+1))+1 by omega,G7.recs] at hkinv
        repeat' (first|(refine cC ?_;simp only [wS,simprocAttr,dU hq,dW hq,cD hq,b8,dX,b9,c2])|refine aH|fail)
        refine aW (dT hLL hfr 2 (by decide)) a6 l6 (by first|exact nQ|exact nP|exact nO|(refine ⟨?_,?_,?_,?_,?_⟩<;>exact rfl)) ?_
        rintro y a7 l7 hy
        simp only [wS,simprocAttr,dU hq,dW hq,cD hq,b8,dX,b9,dY,vI]
        repeat' (first|(refine cC ?_;simp only [wS,simprocAttr,dU hq,dW hq,cD hq,b8,dX,b9,dY,c2])|refine aH|fail)
        refine aW (gN hfr _ _ _ _ [] rfl rfl) a7 l7 (by first|exact nQ|exact nP|exact nO|(refine ⟨?_,?_,?_,?_,?_⟩<;>exact rfl)) ?_
        rintro ⟨k5,n5,m5,es5⟩ a8 l8 hn
        simp only [hy,hn] at hkinv
        simp only [wS,simprocAttr,dU hq,dW hq,cD hq,b8,dX,b9,dY,vT,T.enc]
        refine VF (H:=oQ (sq x q (eX ((T.encs ts).length - 1) (T.encs ts))) a8 l8) (base:=[[.int .i64 k1,.int .i64 n1,.int .i64 m1,.sl false (T.encs es1)]]) (app:=T.encs ks) (e:=[.int .i64 k5,.int .i64 n5,.int .i64 m5,.sl false (T.encs es5)]) (by':=48) b9 (by kernel_rfl) rfl (by rw [QD];exact wM (by simp [b9])) rfl (fun e he=>by
         rcases bn.1 he with rfl|he
         .rfl
         .exact hk4 e he) (by simp [cW]) (by simp only [af,ak,hkln];omega) ?_
        have hac:=NJ (H:=oQ (sq x q (eX ((T.encs ts).length - 1) (T.encs ts))) a8 l8) b9 [[.int .i64 k1,.int .i64 n1,.int .i64 m1,.sl false (T.encs es1)]] (T.encs ks) [.int .i64 k5,.int .i64 n5,.int .i64 m5,.sl false (T.encs es5)]
        rw [<- fB] at hac ⊢
        simp only [wS,simprocAttr,dU hq,dW hq,cD hq,b8,dX,b9,dY]
        repeat' (first|(refine cC ?_;simp only [wS,simprocAttr,dU hq,dW hq,cD hq,b8,dX,b9,dY,e4])|refine aH|fail)
        refine hK9.go ⟨(ks++[T.mk k5 n5 m5 es5],a8,l8),by simp;omega,by rw [hkinv,an,am];simp only [bj,dw]⟩ (Weak.ref ⟨?_,.inl ?_⟩) (by simp;omega)
        .simp only [wS,simprocAttr,an,am];try exact rfl
        .simp only [wS,simprocAttr,dU hq,dW hq,cD hq,b8,dX,b9,dY,hac];try exact rfl
       .have c2:decide ((nk:Int) - (ks.length:Nat) > 0)=false:=by simp;omega
        rw [show nk - ks.length=0 by omega,G7.recs] at hkinv
        simp only [br] at hkinv
        replace hF:=aa hF hkinv
        repeat' (first|(refine cC ?_;simp only [wS,simprocAttr,dU hq,dW hq,cD hq,b8,dX,b9,c2])|refine aH|fail)
        refine hKa.2.go (cK (TI (H:=oQ (sq x q (eX ((T.encs ts).length - 1) (T.encs ts))) a6 l6) (base:=[[.int .i64 k1,.int .i64 n1,.int .i64 m1,.sl false (T.encs es1)]]) (app:=T.encs ks) (sz:=4) (t:=9) [(0,.ptr 1 0 0),(1,.int .i64 params),(5,rv q ((T.encs ts).length - 1) 4 (T.encs ts)),(6,.int .i64 more),(7,.int .i64 (ts.length:Nat))] (by simp [b9]) ?_ ?_ (fun e he=>by
         rcases bn.1 he with rfl|he
         .rfl
         .exact hk4 e he) (by simp only [ar,ba,cQ,aP,aI,T.encs_tree,hkt,ai]) ?_ ?_ (aA3 hfr)) ?_)
        .exact aZ
        .simp only [wS,simprocAttr,dU hq,dW hq,cD hq,b8,dX,b9];try exact rfl
        .exact aZ
        .intro p hp
         replace hp:=aC hp
         rcases hp with rfl|rfl|rfl|rfl|rfl
         .rfl
         .rfl
         .exact bU hq6
         .rfl
         .rfl
        repeat' (first|with_reducible refine WO fun _ _=>?_|with_reducible refine LX ?_|((first|with_reducible refine SH ?_|with_reducible refine SG ?_|with_reducible refine WN fun _ _ _ _=>?_)<;>simp only [wS,simprocAttr,dU hq,dW hq,cD hq,b8,dX,b9,dY,vI,vT,T.enc,T.encs,e3])|(with_reducible refine SF (fun hg=>?_) (fun hg=>?_)<;>simp only [hg,wS,simprocAttr,dU hq,dW hq,cD hq,b8,dX,b9,dY,vI,vT,T.enc,T.encs,e3]<;>((try simp only [decide_eq_true_eq,decide_eq_false_iff_not] at hg);replace hF:=aa hF hg))|((first|with_reducible refine LT ?_|with_reducible refine LV ?_|with_reducible refine LU ?_);try simp only [wE,simprocAttr])|with_reducible refine X3 ?_|with_reducible refine X2 ?_|(refine aW (gN hfr _ _ _ _ (T.mk k1 n1 m1 es1::ks) (hZ (T.mk k1 n1 m1 es1::ks)) (T.encs_tree (T.mk k1 n1 m1 es1::ks))) _ _ (by first|exact nQ|exact nP|exact nO|(refine ⟨?_,?_,?_,?_,?_⟩<;>exact rfl)) ?_;rintro ⟨k1,n1,m1,es1⟩ a1 l1 he;replace hF:=aa hF he;simp only [wS,simprocAttr,dU hq,dW hq,cD hq,b8,dX,b9,dY,vI,vT,T.enc,T.encs,e3])|(refine tQ (app:=(T.encs ts)) (by':=48) (by kernel_rfl) (by (simp only [wS,simprocAttr,dU hq,dW hq,cD hq,b8,dX,b9];try exact rfl)) (mI ts) rfl (by omega) ?_;simp only [wS,simprocAttr,dU hq,dW hq,cD hq,b8,dX,b9,dY,vI,vT,T.enc,T.encs,e3])|(with_reducible refine aa (fun hg=>?_) (fun hg=>?_)<;>((try simp only [hg]);(try simp only [decide_eq_true_eq,decide_eq_false_iff_not] at hg);replace hF:=aa hF hg))|with_reducible refine aa (by kernel_rfl) ?_)
        refine hK3.go ⟨(ts++[T.mk k1 n1 m1 es1],a1,l1),by simp only [an,am];omega,hnext _ _ _ (by simp only [G7.one,ax,hF,decide_true,decide_false,if_true,if_false,aw];try exact rfl)⟩ (Weak.ref ⟨?_,.inl ?_⟩) (by simp only [an,am];omega)
        .simp only [wS,simprocAttr,fB,an,am,cj,T.encs];try exact rfl
        .simp only [wS,simprocAttr,dU hq,dW hq,cD hq,b8,dX,b9,fB,an,am,cj,T.encs];try exact rfl
    clear hK5
    by_cases hp:ts.length<params
    .have c3:decide (((ts.length:Nat):Int)<((params:Nat):Int))=true:=by simp;omega
     repeat' (first|(refine cC ?_;simp only [wS,simprocAttr,dU hq,dW hq,cD hq,b8,dX,b9,c3])|refine aH|fail)
     refine key (w0.tmod 5) _ (by rw [if_pos hp]) (Weak.ref ⟨?_,.inl ?_⟩)
     .exact aZ
     .exact aZ
    .have c3:decide (((ts.length:Nat):Int)<((params:Nat):Int))=false:=by simp;omega
     repeat' (first|(refine cC ?_;simp only [wS,simprocAttr,dU hq,dW hq,cD hq,b8,dX,b9,c3])|refine aH|fail)
     refine key w0 _ (by rw [if_neg hp]) (Weak.ref ⟨?_,.inl ?_⟩)
     .exact aZ
     .exact aZ
   .have c1:decide (((ts.length:Nat):Int)<((tot:Nat):Int))=false:=by simp;omega
    rw [show tot - ts.length=0 by omega,G7.vloop] at hinv
    simp only [br] at hinv
    rw [hinv] at hv
    cases hv
    repeat' (first|(refine cC ?_;simp only [wS,simprocAttr,dU hq,dW hq,cD hq,b8,dX,b9,htot,ew,c1])|refine aH|fail)
    refine aD rfl ⟨.inl ?_,?_,?_⟩
    .refine aA
    .refine aA;exact bU hqc
    .refine aA;exact UX hx hq hr (hrvi ts)
end Go.Proofs.YtggflhbigolakaaGreatDoor
