import Derived.Test.YtggflhbigolakaaGreatDoorM1
import Derived.Test.YtggflhbigolakaaGreatDoorTypes
import Derived.Test.YtggflhbigolakaaGreatDoorAE
import Derived.Test.YtggflhbigolakaaGreatDoorAH
import Derived.Test.YtggflhbigolakaaGreatDoorG
set_option linter.unusedVariables false
set_option linter.unusedSimpArgs false
namespace Go.Proofs.YtggflhbigolakaaGreatDoor
open Go.AM
attribute [local irreducible] cG bG bI bL bW bZ aQ aV bN
set_option maxRecDepth 100000
theorem PO {P:Program} {ι:Type} {R: ι->Prop} {fn:Func} {Rp: ι->AV->AS->Prop} {s:AS} {t:Tmp} {ty:TypeId} {v:AV} (h:fn.results= #[.cell t ty]) (hl:iC P ty (s.get t) s.row=some v) (hR:EG R (fun i=>Rp i v s)):EG R (fun i=>eR P fn (Rp i) .ret s):=hR.mono fun _ q=>⟨v,by simp [dF,fF,kC,h,hl],q⟩
theorem bJ {p q:Nat->Bool} (h:∀ r,p r=true->q r=true) {x:ARow} (hx:aG p x=true):aG q x=true:=by
 cases x<;>simp only [aG,ae] at hx ⊢<;>first|exact b7 h hx|exact ⟨b7 h hx.1,b7 h hx.2⟩|trivial|exact hx
theorem GD {p:Nat->Bool} {v:AV} (h:aI aE v=true):aI p v=true:=gE (p:=aE) (fun r hr=>by cases hr) h
theorem bE {p:Nat->Bool} {v:List AV} (h:aP aE v=true):aP p v=true:=b7 (p:=aE) (fun r hr=>by cases hr) h
theorem aX {B:Prop} (k:B:=by refine Weak.ref ⟨?_,.inr ⟨by first|exact az _|exact ap _|simp,?_,fun g cs hg=>bE (bX g cs hg),?_,?_⟩⟩;all_goals (rcases ?_ with h;exact h)):B:=k
theorem bS {B:Prop} (k:B:=by refine ⟨?_,?_,?_,?_,?_⟩<;>((try simp only [wS,simprocAttr,MX.row]);try exact rfl)):B:=k
theorem cH {A B:Prop} (a:A) (k:A->B:=by intro q'1;refine ⟨?_,?_,?_,?_,?_⟩<;>((try simp only [wS,simprocAttr,MX.row,q'1]);try exact rfl)):B:=k a
theorem aB {p:Nat->Bool} {v:List (List AV)} (h:cQ aE v=true):cQ p v=true:=eN (p:=aE) (fun r hr=>by cases hr) h
theorem bC {z:Int} (h1: -9223372036854775808<=z) (h2:z<=9223372036854775807):IntKind.i64.wrap z=z:=dP h1 h2
inductive NodeV:Nat->List AV->Prop
 |mk {D d:Nat} {hd:d<D} (k n m:Int) (b:Bool) (es:List (List AV)) (hl:es.length<=6) (h:∀ e∈es,NodeV d e):NodeV D [.int .i64 k,.int .i64 n,.int .i64 m,.sl b es]
theorem NodeV.up {d D:Nat} {c:List AV} (h:NodeV d c) (hd:d<=D):NodeV D c:=by
 cases h with
 | @mk _ d' h' k n m b es hl hh=>exact .mk (hd:=jk h' hd) k n m b es hl hh
theorem NodeV.setM {D:Nat} {k n m m':Int} {b:Bool} {es:List (List AV)} (h:NodeV D [.int .i64 k,.int .i64 n,.int .i64 m,.sl b es]):NodeV D [.int .i64 k,.int .i64 n,.int .i64 m',.sl b es]:=by
 cases h with
 | @mk _ d' h' _ _ _ _ _ hl hh=>exact .mk (hd:=h') k n m' b es hl hh
theorem NodeV.len {D:Nat} {c:List AV} (h:NodeV D c):c.length=4:=by cases h;rfl
theorem NodeV.tree:∀ {D:Nat} {c:List AV},NodeV D c->aP aE c=true:=by
 intro D c h
 induction h with
 |mk k n m b es hl h ih=>
  have:cQ aE es=true:=by
   clear hl h
   induction es with
   |nil=>rfl
   |cons e es ie=>simp only [cQ,ae];exact ⟨ih e (by simp),ie fun x hx=>ih x (by simp [hx])⟩
  simp only [aP,aI,this,ai]
theorem iG {D:Nat}:∀ {es:List (List AV)},(∀ e∈es,NodeV D e)->cQ aE es=true
 | [],_=>rfl
 |e::es,h=>by
  simp only [cQ,ae]
  exact ⟨(h e (by simp)).tree,iG fun x hx=>h x (by simp [hx])⟩
theorem Y3 {D:Nat} {c:List AV} (h:NodeV D c):∃ k n m b es,c=[.int .i64 k,.int .i64 n,.int .i64 m,.sl b es]:=by
 cases h with
 | @mk _ d hd k n m b es hl hh=>exact ⟨_,_,_,_,_,rfl⟩
theorem NodeV.wk {D:Nat} {c:List AV} (h:NodeV D c):NodeV D (wkL c):=by
 induction h with
 | @mk D d hd k n m b es hl hh ih=>
  simp only [wkL,AM.wk,gS]
  exact .mk (hd:=hd) k n m false _ (by rw [bp];exact hl) fun e he=>by
   obtain ⟨e0,h0,rfl⟩:=cf.1 he
   exact ih e0 h0
def VN (D:Nat) (v:AV):Prop:=∃ c,v=.agg c/\NodeV D c
theorem VN.up {d D:Nat} {v:AV} (h:VN d v) (hd:d<=D):VN D v:=by
 obtain ⟨c,e,h⟩:=h
 exact ⟨c,e,h.up hd⟩
theorem VN.tree {D:Nat} {v:AV} (h:VN D v):aI aE v=true:=by
 obtain ⟨c,rfl,h⟩:=h
 simp only [aI]
 exact h.tree
theorem VN.wk {D:Nat} {v:AV} (h:VN D v):VN D (AM.wk v):=by
 obtain ⟨c,rfl,h⟩:=h
 exact ⟨_,rfl,h.wk⟩
theorem aCl (k n m:Int) (b:Bool):NodeV 1 [.int .i64 k,.int .i64 n,.int .i64 m,.sl b []]:=.mk (d:=0) (hd:=by decide) k n m b [] (by simp) fun e he=>by cases he
def VI (lo hi:Int) (v:AV):Prop:=∃ z,v=.int .i64 z/\lo<=z/\z<hi
theorem VI.tree {lo hi:Int} {v:AV} (h:VI lo hi v):aI aE v=true:=by
 obtain ⟨c,rfl,h⟩:=h
 rfl
structure Fn where
 v:Nat
 b:Bool
 p:Nat
 q:Nat
 ks:List (List AV)
def Fn.wf (f:Fn):Prop:=f.ks.length=f.q+1/\f.p<=f.q/\f.q<=5/\∀ e∈f.ks,NodeV 12 e
def Fn.row (f:Fn):ARow:=.cells f.v f.ks.flatten
def Fn.cells (f:Fn) (r:Nat):List AV:=[.int .i64 26,.int .i64 f.p,.int .i64 0,.osl r f.v 0 (f.q+1) 4 f.b]
structure MX where
 L:List Int
 pk:Int
 pn:Int
 pm:Int
 F:Int
 kv:AV
 con:Bool
 A2:ARow
 A3:ARow
 A4:ARow
 A5:ARow
def MX.row (x:MX) (at0 left:Int):ARow:=.cells 0 [cY x.L,.int .i64 at0,.int .i64 left,.int .i64 x.pk,.int .i64 x.pn,.int .i64 x.pm,x.kv,.int .i64 x.F,.bool x.con]
inductive PIs (F:Int):AV->ARow->ARow->ARow->ARow->Prop
 |one (f0:Fn) (vP:Nat) (bP:Bool) (A B:ARow):f0.wf->F=0->A.live=false->B.live=false->PIs F (.osl 3 vP 0 1 4 bP) f0.row (.cells vP (f0.cells 2)) A B
 |two (f0 f1:Fn) (vP:Nat) (bP:Bool) (B:ARow):f0.wf->f1.wf->(F=0\/F=1)->B.live=false->PIs F (.osl 3 vP 0 2 4 bP) f0.row (.cells vP (f0.cells 2++f1.cells 4)) f1.row B
 |three (f0 f1 f2:Fn) (vP:Nat) (bP:Bool):f0.wf->f1.wf->f2.wf->(F=0\/F=1\/F=2)->PIs F (.osl 3 vP 0 3 4 bP) f0.row (.cells vP (f0.cells 2++(f1.cells 4++f2.cells 5))) f1.row f2.row
def mH:Nat->Bool:=fun r=>([1,2,3,4,5]:List Nat).contains r
structure MX.frame (x:MX):Prop where
 L:∀ y∈x.L,bR y
 kv:aI mH x.kv=true
 r2:aG mH x.A2=true
 r3:aG mH x.A3=true
 r4:aG mH x.A4=true
 r5:aG mH x.A5=true
def MX.ok (x:MX):Prop:=(∀ y∈x.L,bR y)/\(x.con=true->0<x.pn)/\PIs x.F x.kv x.A2 x.A3 x.A4 x.A5
theorem tI {f:Fn} {p:Nat->Bool} (h:f.wf):aG p f.row=true:=by
 simp only [Fn.row,aG]
 exact dK (aB (iG h.2.2.2))
theorem GP {A:ARow} {p:Nat->Bool} (h:A.live=false):aG p A=true:=by cases A<;>first|rfl|cases h
theorem MX.ok.fr {x:MX} (h:x.ok):x.frame:=by
 obtain ⟨L,pk,pn,pm,F,kv,con,A2,A3,A4,A5⟩:=x
 obtain ⟨h1,h2,h3⟩:=h
 simp only at h1 h3
 cases h3 with
 |one f0 vP bP A B h0 _ ha hb=>exact ⟨h1,rfl,tI h0,rfl,GP ha,GP hb⟩
 |two f0 f1 vP bP B h0 h1' _ hb=>exact ⟨h1,rfl,tI h0,rfl,tI h1',GP hb⟩
 |three f0 f1 f2 vP bP h0 h1' h2'=>exact ⟨h1,rfl,tI h0,rfl,tI h1',tI h2'⟩
theorem MX.frame.row {x:MX} (h:x.frame) (a l:Int):aG mH (x.row a l)=true:=by
 simp only [MX.row,aG,aP,aI,GD (fP x.L),h.kv,ai]
def MR (x:MX) (rows:Nat->ARow) (at0 left:Int):Prop:=rows 1=x.row at0 left/\rows 2=x.A2/\rows 3=x.A3/\rows 4=x.A4/\rows 5=x.A5
def MC (x:MX) (f:FuncId) (more:List AV) (V:AV->Prop):Prop:=∀ rows at0 left,MR x rows at0 left->EC Tryz.prog G0 f (.ptr 1 0 0::more) rows [1,2,3,4,5] (fun eff=>∃ v at1 left1,eff=⟨v,[(1,x.row at1 left1)]⟩/\V v/\aI aE v=true)
theorem MC.imp {x:MX} {f:FuncId} {more:List AV} {V W:AV->Prop} (h:MC x f more V) (hw:∀ v,V v->W v):MC x f more W:=fun rows a l hr=>by
 obtain ⟨eff,⟨v,a1,l1,e,h1,h2⟩,hc⟩:=h rows a l hr
 exact ⟨eff,⟨v,a1,l1,e,hw v h1,h2⟩,hc⟩
theorem gZ {m:Nat} (hm:6<=m):∀ r,mH r=true->decide (r<m)=true:=fun r h=>by simp [mH] at h ⊢;omega
theorem MR.get {x:MX} {rows:Nat->ARow} {a l:Int} (h:MR x rows a l):∀ r∈([1,2,3,4,5]:List Nat),[ARow.dead,x.row a l,x.A2,x.A3,x.A4,x.A5].getD r .none=rows r:=by
 obtain ⟨h1,h2,h3,h4,h5⟩:=h
 intro r hr
 replace hr:=aC hr
 rcases hr with rfl|rfl|rfl|rfl|rfl
 .exact h1.symm
 .exact h2.symm
 .exact h3.symm
 .exact h4.symm
 .exact h5.symm
theorem MR.ins {x:MX} (hx:x.frame) {rows:Nat->ARow} {a l:Int} (h:MR x rows a l):∀ r∈([1,2,3,4,5]:List Nat),aG mH (rows r)=true:=by
 obtain ⟨h1,h2,h3,h4,h5⟩:=h
 intro r hr
 replace hr:=aC hr
 rcases hr with rfl|rfl|rfl|rfl|rfl
 .rw [h1];exact hx.row _ _
 .rw [h2];exact hx.r2
 .rw [h3];exact hx.r3
 .rw [h4];exact hx.r4
 .rw [h5];exact hx.r5
theorem MR.dead {x:MX} {a l:Int}:∀ r,r ∉ ([1,2,3,4,5]:List Nat)->[ARow.dead,x.row a l,x.A2,x.A3,x.A4,x.A5].getD r .none=if r< [ARow.dead,x.row a l,x.A2,x.A3,x.A4,x.A5].length then .dead else .none:=by
 intro r hr
 match r,hr with
 |0,_=>simp
 |1,hr=>exact absurd (by simp) hr
 |2,hr=>exact absurd (by simp) hr
 |3,hr=>exact absurd (by simp) hr
 |4,hr=>exact absurd (by simp) hr
 |5,hr=>exact absurd (by simp) hr
 |r+6,_=>simp
theorem MR.post {x:MX} (hx:x.frame) {rows rows':Nat->ARow} {a l a1 l1:Int} {wr:List (Nat × ARow)} (h:MR x rows' a1 l1) (hw:∀ r∈([1,2,3,4,5]:List Nat),rows' r=upd rows wr r):∀ r∈([1,2,3,4,5]:List Nat),rows' r=upd rows wr r/\aG (fun r=>([1,2,3,4,5]:List Nat).contains r) (rows' r)=true:=fun r hr=>⟨hw r hr,h.ins hx r hr⟩
theorem MR.upd {x:MX} {rows rows':Nat->ARow} {a l a1 l1:Int} (h:MR x rows a l) (h':MR x rows' a1 l1):∀ r∈([1,2,3,4,5]:List Nat),rows' r=AM.upd rows [(1,x.row a1 l1)] r:=by
 obtain ⟨h1,h2,h3,h4,h5⟩:=h
 obtain ⟨g1,g2,g3,g4,g5⟩:=h'
 intro r hr
 replace hr:=aC hr
 rcases hr with rfl|rfl|rfl|rfl|rfl
 .rw [g1];simp [fC]
 .rw [g2];simp [fC,h2]
 .rw [g3];simp [fC,h3]
 .rw [g4];simp [fC,h4]
 .rw [g5];simp [fC,h5]
theorem mX {P:Program} {fn:Func} {R R':AV->AS->Prop} (h:∀ v s,R v s->R' v s):∀ e s,eR P fn R e s->eR P fn R' e s:=fun e s q=>by
 cases e with
 |normal=>obtain ⟨v,g1,g2⟩:=q;exact ⟨v,g1,h v s g2⟩
 |ret=>obtain ⟨v,g1,g2⟩:=q;exact ⟨v,g1,h v s g2⟩
 |exit id=>exact q.elim
 |goto l=>exact q.elim
 |panic ch=>exact q.elim
 |outgrown=>exact q.elim
theorem MK {x:MX} {f:FuncId} {fn:Func} {c:Code} {more:List AV} {V:AV->Prop} (hx:x.frame) (hf:Tryz.prog.funcs[f]? =some fn) (hb:fn.body=some c) (hgo:fR Tryz.prog f=true) (hn:more.length+1<=fn.ntmps) (hmore:aP aE more=true)
  (hbody:∀ at0 left,EG (fun i:AV × Int × Int=>V i.1/\aI aE i.1=true) (fun i=>cG Tryz.prog G0 fn.ntmps 6 c (eR Tryz.prog fn fun v s=>v=i.1/\MR x s.row i.2.1 i.2.2) ⟨eJ (aK 0 (.ptr 1 0 0::more)),[.dead,x.row at0 left,x.A2,x.A3,x.A4,x.A5]⟩)):MC x f more V:=by
 intro rows at0 left hr
 refine N5 [.dead,x.row at0 left,x.A2,x.A3,x.A4,x.A5] bX hf hb hgo (by simpa using hn) hr.get MR.dead ?_ (fun r h=>bJ (gZ (by simp)) (hr.ins hx r h)) ?_ ?_ ?_
 .simp only [aP,aI,af,ak,Nat.reduceAdd,Nat.reduceLT,decide_true,ac]
  exact bE hmore
 .intro r hr h
  replace hr:=aC hr
  simp only [af,ak] at h
  omega
 .rintro eff ⟨v,a1,l1,rfl,_⟩ p hp
  simp at hp
  subst hp
  simp
 .obtain ⟨i,⟨i1,i2⟩,hw⟩:=hbody at0 left
  refine EG.of ⟨i.1,[(1,x.row i.2.1 i.2.2)]⟩ ⟨_,_,_,rfl,i1,i2⟩ (jR hw (mX fun v s=>?_))
  rintro ⟨rfl,q⟩
  exact ⟨.inl rfl,GD i2,fun r h=>⟨hr.upd q r h,q.ins hx r h⟩⟩
theorem N8 {x:MX} {f:FuncId} {fn:Func} {c:Code} {args:List AV} {res:AV} (hx:x.frame) (hf:Tryz.prog.funcs[f]? =some fn) (hb:fn.body=some c) (hgo:fR Tryz.prog f=true) (hn:args.length<=fn.ntmps) (hargs:aP mH args=true) (hres:aI mH res=true)
  (hbody:∀ at0 left,cG Tryz.prog G0 fn.ntmps 6 c (eR Tryz.prog fn fun v s=>v=res/\MR x s.row at0 left) ⟨eJ (aK 0 args),[.dead,x.row at0 left,x.A2,x.A3,x.A4,x.A5]⟩):∀ rows at0 left,MR x rows at0 left->c8 Tryz.prog G0 f args rows [1,2,3,4,5] ⟨res,[]⟩:=by
 intro rows at0 left hr
 refine bT [.dead,x.row at0 left,x.A2,x.A3,x.A4,x.A5] bX hf hb hgo hn hr.get MR.dead (b7 (gZ (by simp)) hargs) (fun r h=>bJ (gZ (by simp)) (hr.ins hx r h)) ?_ (by simp) ?_
 .intro r hr h
  replace hr:=aC hr
  simp only [af,ak] at h
  omega
 .refine jR (hbody at0 left) (mX fun v s=>?_)
  rintro ⟨rfl,q⟩
  refine ⟨.inl rfl,hres,fun r h=>⟨?_,q.ins hx r h⟩⟩
  rw [<- q.get r h]
  exact hr.get r h
theorem node_ok {d:Nat} {x:MX} (hx:x.frame) (k n:Int) (b:Bool) (es:List (List AV)) (hl:es.length<=6) (hes:∀ e∈es,NodeV d e):MC x 125 [.int .i64 k,.int .i64 n,.sl b es] (fun v=>v=.agg [.int .i64 k,.int .i64 n,.int .i64 0,.sl b es]/\NodeV (d+1) [.int .i64 k,.int .i64 n,.int .i64 0,.sl b es]):=by
 have hv:NodeV (d+1) [.int .i64 k,.int .i64 n,.int .i64 0,.sl b es]:=.mk (hd:=Nat.lt_succ_self d) k n 0 b es hl hes
 refine MK hx Tryz.func125 rfl (by kernel_rfl) (by simp [Tryz.ntmps125]) (by simpa [aP,aI] using iG hes) fun at0 left=>?_
 simp only [Tryz.ntmps125,aK,Nat.reduceAdd,MX.row]
 refine SA
 exact PO rfl aZ (EG.of (.agg [.int .i64 k,.int .i64 n,.int .i64 0,.sl b es],_,_) ⟨⟨rfl,hv⟩,hv.tree⟩ ⟨rfl,bS⟩)
namespace T
mutual
def enc:T->List AV|mk k n m es=>[.int .i64 k,.int .i64 n,.int .i64 m,.sl false (encs es)]
def encs:List T->List (List AV)
 | []=>[]
 |e::es=>enc e::encs es
end
theorem encs_map (es:List T):encs es=es.map enc:=by induction es<;>simp_all [encs]
mutual
theorem enc_tree:∀ t:T,aP aE (enc t)=true
 |mk k n m es=>by simp only [enc,aP,aI,encs_tree es,ai]
theorem encs_tree:∀ es:List T,cQ aE (encs es)=true
 | []=>rfl
 |e::es=>by simp only [encs,cQ,enc_tree e,encs_tree es,ai]
end
theorem encs_len (es:List T):(encs es).length=es.length:=by rw [encs_map,bp]
theorem encs_get {es:List T} {i:Nat} {e:T} (h:es[i]? =some e):(encs es)[i]? =some (enc e):=by rw [encs_map,bh,h];rfl
theorem sizes_take {es:List T} {i:Nat} {e:T} (h:es[i]? =some e):sizes (es.take (i+1))=sizes (es.take i)+size e:=by
 rw [dh,h,i7];simp [sizes]
theorem sizes_take_le:∀ (es:List T) (i:Nat),sizes (es.take i)<=sizes es
 | [],i=>by simp
 |e::es,0=>by simp [sizes]
 |e::es,i+1=>by
  have:=sizes_take_le es i
  simp only [di,sizes];omega
theorem len_sizes:∀ es:List T,es.length<=sizes es
 | []=>by simp
 |e::es=>by
  have h1:=len_sizes es
  have h2:=size_pos e
  simp only [af,sizes];omega
end T
theorem dB {P:Program} {fn:Func} {Rp:AV->AS->Prop} {s:AS} {t:Tmp} {ty:TypeId} {v:AV} (h:fn.results= #[.cell t ty]) (hl:iC P ty (s.get t) s.row=some v) (hR:Rp v s):eR P fn Rp .ret s:=⟨v,by simp [dF,fF,kC,h,hl],hR⟩
theorem mQ [i6] {n k:Nat} {s:AS}:Ref G0 n k s s:=fun E a i=>⟨E,rfl,(Ext.refl E).toK k,i⟩
mutual
theorem T.wk_enc:∀ t:T,wkL (T.enc t)=T.enc t
 | .mk k n m es=>by
  have h:=T.wk_encs es
  simp only [T.enc,wkL,AM.wk,gS,h]
theorem T.wk_encs:∀ es:List T,(T.encs es).map wkL=T.encs es
 | []=>rfl
 |e::es=>by rw [T.encs,ay,T.wk_enc e,T.wk_encs es]
end
theorem T.enc_len (t:T):(T.enc t).length=4:=by cases t;rfl
theorem kH {α:Type} {f: α->List AV} {es:List α} {i:Nat} {e: α} (h:es[i]? =some e):(es.take (i+1)).map f=(es.take i).map f++[f e]:=by
 rw [dh,h,dq];rfl
theorem bK {P:Program} {fn:Func} {Rp:AV->AS->Prop} {s:AS} {t u:Tmp} {ty:TypeId} {v:AV} (h:fn.results= #[.cell t ty,.tmp u]) (hl:iC P ty (s.get t) s.row=some v) (hR:Rp (.tup [v,s.get u]) s):eR P fn Rp .ret s:=⟨_,by simp [dF,fF,kC,h,hl],hR⟩
namespace T
def sub:T->List Int->Option T
 |t,[]=>some t
 |t,i::p=>if 0<=i then (match t.kids[i.toNat]? with|some e=>sub e p|none=>none) else none
end T
theorem aDi:∀ (p:List Int) (b:Bool) (t t':T),p.length<=1000000000000->T.sub t p=some t'->Pure Tryz.prog G0 42 [.agg (T.enc t),.sl b (p.map fun x=>[AV.int .i64 x])] (.tup [.agg (T.enc t'),.bool true]):=by
 intro p
 induction p with
 |nil=>
  intro b t t' _ h
  simp only [T.sub,ao] at h
  subst h
  have htr:=T.enc_tree t
  cases t with
  |mk k n m es=>
  refine aL bX Tryz.func42 rfl (by kernel_rfl) (by simp [Tryz.ntmps42]) (by simp only [aP,aI,htr,bu,cQ,ai]) (by simp only [aI,aP,htr,ai]) ?_
  simp only [Tryz.ntmps42,aK,Nat.reduceAdd,T.enc,bu]
  refine aF
  refine bK (v:=.agg (T.enc (.mk k n m es))) rfl (by simp only [wS,simprocAttr,T.enc];try exact rfl) aZ
 |cons i p ih=>
  intro b t t' hl h
  simp only [T.sub] at h
  split at h
  .rename_i hi
   split at h
   .rename_i e he
    have htr:=T.enc_tree t
    have htr':=T.enc_tree t'
    have htp:cQ aE ((i::p).map fun x=>[AV.int .i64 x])=true:=bD _
    cases t with
    |mk k n m es=>
    obtain ⟨j,rfl⟩:∃ j:Nat,i=j:=⟨i.toNat,(dc hi).symm⟩
    simp only [ax,T.kids] at he
    have hlt:j<es.length:=(aq.1 he).1
    have hg:=T.encs_get he
    have hln:=T.encs_len es
    simp only [af] at hl
    have hih:=fun b=>ih b e t' (by omega) h
    have hee:∃ a b c d,T.enc e=[.int .i64 a,.int .i64 b,.int .i64 c,.sl false d]:=by cases e;exact ⟨_,_,_,_,rfl⟩
    have hee':∃ a b c d,T.enc t'=[.int .i64 a,.int .i64 b,.int .i64 c,.sl false d]:=by cases t';exact ⟨_,_,_,_,rfl⟩
    obtain ⟨ek,en,em,ees,hee⟩:=hee
    obtain ⟨fk,fn,fm,fes,hee'⟩:=hee'
    rw [hee] at hg hih
    rw [hee'] at hih htr' ⊢
    refine aL bX Tryz.func42 rfl (by kernel_rfl) (by simp [Tryz.ntmps42]) (by simp only [aP,aI,htr,htp,ai]) (by simp only [aI,aP,ab,ac] at htr' ⊢;exact htr') ?_
    simp only [Tryz.ntmps42,aK,Nat.reduceAdd,T.enc,ay]
    have hltE:j<(T.encs es).length:=by omega
    have e1:(((p.length+1:Nat):Int)==0)=false:=by simp;omega
    have e2:decide (((j:Nat):Int)<0)=false:=by simp
    have e3:decide (((j:Nat):Int) >= ((T.encs es).length:Int))=false:=by simp;omega
    have hsl:(p.map fun x=>[AV.int .i64 x]).all (fun e=>decide (e.length=1))=true:=by simp
    have htk:(p.map fun x=>[AV.int .i64 x]).take p.length=p.map fun x=>[AV.int .i64 x]:=bx (by simp)
    have hle:(p.length<=p.length)=True:=by simp
    repeat' (first|(refine cC ?_;simp only [wS,simprocAttr,e1,e2,e3,hg,hltE,af,hle,if_true,hsl,htk,cj,fo,co,decide_true,ac])|refine aH|fail)
    refine bO bX (hih _) ?_
    refine aA
    refine ⟨by kernel_rfl,?_⟩
    refine aF
    refine bK (v:=.agg [.int .i64 fk,.int .i64 fn,.int .i64 fm,.sl false fes]) rfl aZ aZ
   .cases h
  .cases h
theorem aN (t:T):∃ a b c d,T.enc t=[.int .i64 a,.int .i64 b,.int .i64 c,.sl false d]:=by cases t;exact ⟨_,_,_,_,rfl⟩
theorem bM {r v sz:Nat} {app:List (List AV)}:cO (rv r v sz app)=[r]:=by
 unfold rv;split<;>rfl
theorem aY {r v sz:Nat} {app:List (List AV)}:AV.toCells (rv r v sz app)=some [rv r v sz app]:=by
 unfold rv;split<;>rfl
end Go.Proofs.YtggflhbigolakaaGreatDoor
