import Derived.Test.YtggflhbigolakaaGreatDoorAH
import Derived.Test.YtggflhbigolakaaGreatDoorTypes
set_option linter.unusedVariables false
set_option linter.unusedSimpArgs false
namespace Go.Proofs.YtggflhbigolakaaGreatDoor
open Go.AM
attribute [local irreducible] AWp aY bC bI bU bW aN aS bL
def cI (n:Int):Prop:= -9223372036854775808≤n∧n≤9223372036854775807
def jJ (n m:Int):Int:=(if n<0 then -(n+1) else n).tmod m
theorem qU (n m:Int) (hn:cI n) (hm:m≠0):Pure Tryz.prog G0 19 [.int .i64 n,.int .i64 m] (.int .i64 (jJ n m)):=by
 obtain ⟨h1,h2⟩:=hn
 refine aQ hG0 Tryz.func19 rfl (by kernel_rfl) (by simp [Tryz.ntmps19]) (by simp [inL,inR]) (by simp [inR]) ?_
 simp only [Tryz.ntmps19,aH,Nat.reduceAdd]
 repeat' (first|(refine u'S ?_;simp only [wS,simprocAttr])|refine u'Q fun _ _=>?_|refine aV ?_|refine aR (fun hg=>?_) fun hg=>?_|fail)
 refine ⟨fun h=>?_,fun h=>?_⟩
 ·simp at h
  have e1:IntKind.i64.wrap (n+1)=n+1:=cB (by omega) (by omega)
  have e2:IntKind.i64.wrap (0 - (n+1))= -(n+1):=by rw [cB (by omega) (by omega)];omega
  repeat' (first|(refine u'S ?_;simp only [wS,simprocAttr,e1,e2,hm])|refine u'Q fun _ _=>?_|refine aV ?_|refine aR (fun hg=>?_) fun hg=>?_|fail)
  refine aB rfl ?_
  simp only [amS,if_true,if_false]
  rw [jJ,if_pos h]
 ·simp at h
  repeat' (first|(refine u'S ?_;simp only [wS,simprocAttr,hm])|refine u'Q fun _ _=>?_|refine aV ?_|refine aR (fun hg=>?_) fun hg=>?_|fail)
  refine aB rfl ?_
  simp only [amS,if_true,if_false]
  rw [jJ,if_neg (by omega)]
theorem nW (n m:Int) (hm:0<m):0≤jJ n m∧jJ n m<m:=by
 unfold jJ
 split
 ·exact ⟨Int.tmod_nonneg _ (by omega),Int.tmod_lt_of_pos _ hm⟩
 ·exact ⟨Int.tmod_nonneg _ (by omega),Int.tmod_lt_of_pos _ hm⟩
def b9 (l:List Int):AV:=.sl false (l.map fun n=>[.int .i64 n])
theorem aW:∀ (l:List Int),inE aC (l.map fun n=>[AV.int .i64 n])=true
 | []=>by simp [inE]
 |x::l=>by simp [inE,inL,inR,aW l]
theorem eW (l:List Int):inR aC (b9 l)=true:=by simp only [b9,inR];exact aW l
def atS (l:List Int) (i m:Int):Int:=if 0≤i then (match l[i.toNat]? with|some x=>jJ x m|none=>0) else 0
theorem HO (l:List Int) (i m:Int) (hm:0<m):0≤atS l i m∧atS l i m<m:=by
 unfold atS
 split
 ·split
  ·exact nW _ _ hm
  ·omega
 ·omega
theorem rP (l:List Int) (i m:Int) (hl:∀ x∈l,cI x) (hm:m≠0):Pure Tryz.prog G0 70 [b9 l,.int .i64 i,.int .i64 m] (.int .i64 (atS l i m)):=by
 refine aQ hG0 Tryz.func70 rfl (by kernel_rfl) (by simp [Tryz.ntmps70]) (by simp [inL,inR,eW]) (by simp [inR]) ?_
 simp only [Tryz.ntmps70,aH,Nat.reduceAdd,b9]
 repeat' (first|(refine u'S ?_;simp only [wS,simprocAttr])|refine u'Q fun _ _=>?_|refine aV ?_|refine aR (fun hg=>?_) fun hg=>?_|fail)
 ·simp at hg
  refine aB rfl ?_
  simp only [amS,if_true,if_false]
  rw [atS,if_neg (by omega)]
 ·simp at hg
  refine ⟨fun h=>?_,fun h=>?_⟩
  ·simp at h
   repeat' (first|(refine u'S ?_;simp only [wS,simprocAttr])|refine u'Q fun _ _=>?_|refine aV ?_|refine aR (fun hg=>?_) fun hg=>?_|fail)
   refine aB rfl ?_
   simp only [amS,if_true,if_false]
   rw [atS,if_pos hg,List.getElem?_eq_none (by omega)]
  ·simp at h
   obtain ⟨k,rfl⟩:∃ k:Nat,i=k:=⟨i.toNat,(Int.toNat_of_nonneg hg).symm⟩
   have hlt:k<l.length:=by omega
   obtain ⟨x,hx⟩:∃ v,l[k]? =some v:=⟨_,List.getElem?_eq_getElem hlt⟩
   repeat' (first|(refine u'S ?_;simp only [wS,simprocAttr,hx])|refine u'Q fun _ _=>?_|refine aV ?_|refine aR (fun hg=>?_) fun hg=>?_|fail)
   refine bH hG0 (qU x m (hl x (List.mem_of_getElem? hx)) hm) ?_
   simp only [wS,simprocAttr]
   repeat' (first|(refine u'S ?_;simp only [wS,simprocAttr])|refine u'Q fun _ _=>?_|refine aV ?_|refine aR (fun hg=>?_) fun hg=>?_|fail)
   refine aB rfl ?_
   simp only [amS,if_true,if_false]
   rw [atS,if_pos hg,Int.toNat_natCast,hx]
set_option maxRecDepth 100000
theorem pS {P:Program} {ι:Type} {R: ι→Prop} {fn:Func} {Rp: ι→AV→AS→Prop} {s:AS} {t:Tmp} {ty:TypeId} {v:AV} (h:fn.results= #[.cell t ty]) (hl:gO P ty (s.get t) s.row=some v) (hR:EG R (fun i=>Rp i v s)):EG R (fun i=>dR P fn (Rp i) .ret s):=hR.mono fun _ q=>⟨v,by simp [cR,eK,jE,h,hl],q⟩
theorem cY {p q:Nat→Bool} (h:∀ r,p r=true→q r=true) {x:ARow} (hx:aG p x=true):aG q x=true:=by
 cases x<;>simp only [aG,Bool.and_eq_true] at hx ⊢<;>first|exact cC h hx|exact ⟨cC h hx.1,cC h hx.2⟩|trivial|exact hx
theorem FU {p:Nat→Bool} {v:AV} (h:inR aC v=true):inR p v=true:=jT (p:=aC) (fun r hr=>by cases hr) h
theorem aD {p:Nat→Bool} {v:List AV} (h:inL aC v=true):inL p v=true:=cC (p:=aC) (fun r hr=>by cases hr) h
theorem aA {p:Nat→Bool} {v:List (List AV)} (h:inE aC v=true):inE p v=true:=pN (p:=aC) (fun r hr=>by cases hr) h
theorem cO {z:Int} (h1: -9223372036854775808≤z) (h2:z≤9223372036854775807):IntKind.i64.wrap z=z:=cB h1 h2
inductive NodeV:Nat→List AV→Prop
 |mk {D d:Nat} {hd:d<D} (k n m:Int) (b:Bool) (es:List (List AV)) (hl:es.length≤6) (h:∀ e∈es,NodeV d e):NodeV D [.int .i64 k,.int .i64 n,.int .i64 m,.sl b es]
theorem NodeV.up {d D:Nat} {c:List AV} (h:NodeV d c) (hd:d≤D):NodeV D c:=by
 cases h with
 | @mk _ d' h' k n m b es hl hh=>exact .mk (hd:=Nat.lt_of_lt_of_le h' hd) k n m b es hl hh
theorem NodeV.setM {D:Nat} {k n m m':Int} {b:Bool} {es:List (List AV)} (h:NodeV D [.int .i64 k,.int .i64 n,.int .i64 m,.sl b es]):NodeV D [.int .i64 k,.int .i64 n,.int .i64 m',.sl b es]:=by
 cases h with
 | @mk _ d' h' _ _ _ _ _ hl hh=>exact .mk (hd:=h') k n m' b es hl hh
theorem NodeV.len {D:Nat} {c:List AV} (h:NodeV D c):c.length=4:=by cases h;rfl
theorem NodeV.tree:∀ {D:Nat} {c:List AV},NodeV D c→inL aC c=true:=by
 intro D c h
 induction h with
 |mk k n m b es hl h ih=>
  have:inE aC es=true:=by
   clear hl h
   induction es with
   |nil=>rfl
   |cons e es ie=>simp only [inE,Bool.and_eq_true];exact ⟨ih e (by simp),ie fun x hx=>ih x (by simp [hx])⟩
  simp only [inL,inR,this,Bool.and_self]
theorem cZ {D:Nat}:∀ {es:List (List AV)},(∀ e∈es,NodeV D e)→inE aC es=true
 | [],_=>rfl
 |e::es,h=>by
  simp only [inE,Bool.and_eq_true]
  exact ⟨(h e (by simp)).tree,cZ fun x hx=>h x (by simp [hx])⟩
theorem bF {D:Nat} {c:List AV} (h:NodeV D c):∃ k n m b es,c=[.int .i64 k,.int .i64 n,.int .i64 m,.sl b es]:=by
 cases h with
 | @mk _ d hd k n m b es hl hh=>exact ⟨_,_,_,_,_,rfl⟩
theorem NodeV.wk {D:Nat} {c:List AV} (h:NodeV D c):NodeV D (wkL c):=by
 induction h with
 | @mk D d hd k n m b es hl hh ih=>
  simp only [wkL,AM.wk,dI]
  exact .mk (hd:=hd) k n m false _ (by rw [List.length_map];exact hl) fun e he=>by
   obtain ⟨e0,h0,rfl⟩:=List.mem_map.1 he
   exact ih e0 h0
def VN (D:Nat) (v:AV):Prop:=∃ c,v=.agg c∧NodeV D c
theorem VN.up {d D:Nat} {v:AV} (h:VN d v) (hd:d≤D):VN D v:=by
 obtain ⟨c,e,h⟩:=h
 exact ⟨c,e,h.up hd⟩
theorem VN.tree {D:Nat} {v:AV} (h:VN D v):inR aC v=true:=by
 obtain ⟨c,rfl,h⟩:=h
 simp only [inR]
 exact h.tree
theorem VN.wk {D:Nat} {v:AV} (h:VN D v):VN D (AM.wk v):=by
 obtain ⟨c,rfl,h⟩:=h
 exact ⟨_,rfl,h.wk⟩
theorem RV (k n m:Int) (b:Bool):NodeV 1 [.int .i64 k,.int .i64 n,.int .i64 m,.sl b []]:=.mk (d:=0) (hd:=by decide) k n m b [] (by simp) fun e he=>by cases he
theorem eM:∀ e∈([]:List (List AV)),NodeV 0 e:=fun e he=>by cases he
theorem gP {d:Nat} {c:List AV} (h:NodeV d c):∀ e∈[c],NodeV d e:=fun e he=>by rw [List.mem_singleton.1 he];exact h
theorem gF {i j:Nat} {c d:List AV} (h:NodeV i c) (g:NodeV j d):∀ e∈[c,d],NodeV (max i j) e:=fun e he=>by
 rcases List.mem_cons.1 he with rfl|he
 ·exact h.up (Nat.le_max_left _ _)
 ·rw [List.mem_singleton.1 he];exact g.up (Nat.le_max_right _ _)
theorem dB {i j l:Nat} {c d e:List AV} (h:NodeV i c) (g:NodeV j d) (k:NodeV l e):∀ y∈[c,d,e],NodeV (max i (max j l)) y:=fun y hy=>by
 rcases List.mem_cons.1 hy with rfl|hy
 ·exact h.up (Nat.le_max_left _ _)
 ·exact (gF g k y hy).up (Nat.le_max_right _ _)
theorem OG {d:Nat} {l:List (List AV)} {c:List AV} (h:∀ e∈l,NodeV d e) (g:NodeV d c):∀ e∈l++[c],NodeV d e:=fun e he=>by
 rcases List.mem_append.1 he with he|he
 ·exact h e he
 ·rw [List.mem_singleton.1 he];exact g
def VI (lo hi:Int) (v:AV):Prop:=∃ z,v=.int .i64 z∧lo≤z∧z<hi
theorem VI.tree {lo hi:Int} {v:AV} (h:VI lo hi v):inR aC v=true:=by
 obtain ⟨c,rfl,h⟩:=h
 rfl
def VF (v:AV):Prop:=∃ a b,v=.tup [.int .i64 a,.int .i64 b]
structure Fn where
 v:Nat
 b:Bool
 p:Nat
 q:Nat
 ks:List (List AV)
def Fn.wf (f:Fn):Prop:=f.ks.length=f.q+1∧f.p≤f.q∧f.q≤5∧∀ e∈f.ks,NodeV 12 e
def Fn.row (f:Fn):ARow:=.cells f.v f.ks.flatten
def Fn.cells (f:Fn) (r:Nat):List AV:=[.int .i64 26,.int .i64 f.p,.int .i64 0,.osl r f.v 0 (f.q+1) 4 f.b]
structure MX where
 L:List Int
 pk:Int
 pn:Int
 pm:Int
 F:Int
 kv:AV
 con:Bool
 A2:ARow
 A3:ARow
 A4:ARow
 A5:ARow
def MX.row (x:MX) (at0 left:Int):ARow:=.cells 0 [b9 x.L,.int .i64 at0,.int .i64 left,.int .i64 x.pk,.int .i64 x.pn,.int .i64 x.pm,x.kv,.int .i64 x.F,.bool x.con]
inductive PIs (F:Int):AV→ARow→ARow→ARow→ARow→Prop
 |one (f0:Fn) (vP:Nat) (bP:Bool) (A B:ARow):f0.wf→F=0→A.live=false→B.live=false→PIs F (.osl 3 vP 0 1 4 bP) f0.row (.cells vP (f0.cells 2)) A B
 |two (f0 f1:Fn) (vP:Nat) (bP:Bool) (B:ARow):f0.wf→f1.wf→(F=0∨F=1)→B.live=false→PIs F (.osl 3 vP 0 2 4 bP) f0.row (.cells vP (f0.cells 2++f1.cells 4)) f1.row B
 |three (f0 f1 f2:Fn) (vP:Nat) (bP:Bool):f0.wf→f1.wf→f2.wf→(F=0∨F=1∨F=2)→PIs F (.osl 3 vP 0 3 4 bP) f0.row (.cells vP (f0.cells 2++(f1.cells 4++f2.cells 5))) f1.row f2.row
def nQ:Nat→Bool:=fun r=>([1,2,3,4,5]:List Nat).contains r
structure MX.frame (x:MX):Prop where
 L:∀ y∈x.L,cI y
 kv:inR nQ x.kv=true
 r2:aG nQ x.A2=true
 r3:aG nQ x.A3=true
 r4:aG nQ x.A4=true
 r5:aG nQ x.A5=true
def MX.ok (x:MX):Prop:=(∀ y∈x.L,cI y)∧(x.con=true→0<x.pn)∧PIs x.F x.kv x.A2 x.A3 x.A4 x.A5
theorem pO {f:Fn} {p:Nat→Bool} (h:f.wf):aG p f.row=true:=by
 simp only [Fn.row,aG]
 exact cF (aA (cZ h.2.2.2))
theorem BB {A:ARow} {p:Nat→Bool} (h:A.live=false):aG p A=true:=by cases A<;>first|rfl|cases h
theorem MX.ok.fr {x:MX} (h:x.ok):x.frame:=by
 obtain ⟨L,pk,pn,pm,F,kv,con,A2,A3,A4,A5⟩:=x
 obtain ⟨h1,h2,h3⟩:=h
 simp only at h1 h3
 cases h3 with
 |one f0 vP bP A B h0 _ ha hb=>exact ⟨h1,rfl,pO h0,rfl,BB ha,BB hb⟩
 |two f0 f1 vP bP B h0 h1' _ hb=>exact ⟨h1,rfl,pO h0,rfl,pO h1',BB hb⟩
 |three f0 f1 f2 vP bP h0 h1' h2'=>exact ⟨h1,rfl,pO h0,rfl,pO h1',pO h2'⟩
theorem MX.frame.row {x:MX} (h:x.frame) (a l:Int):aG nQ (x.row a l)=true:=by
 simp only [MX.row,aG,inL,inR,FU (eW x.L),h.kv,Bool.and_self]
def MR (x:MX) (rows:Nat→ARow) (at0 left:Int):Prop:=rows 1=x.row at0 left∧rows 2=x.A2∧rows 3=x.A3∧rows 4=x.A4∧rows 5=x.A5
def MC (x:MX) (f:FuncId) (more:List AV) (V:AV→Prop):Prop:=∀ rows at0 left,MR x rows at0 left→EC Tryz.prog G0 f (.ptr 1 0 0::more) rows [1,2,3,4,5] (fun eff=>∃ v at1 left1,eff=⟨v,[(1,x.row at1 left1)]⟩∧V v∧inR aC v=true)
theorem MC.imp {x:MX} {f:FuncId} {more:List AV} {V W:AV→Prop} (h:MC x f more V) (hw:∀ v,V v→W v):MC x f more W:=fun rows a l hr=>by
 obtain ⟨eff,⟨v,a1,l1,e,h1,h2⟩,hc⟩:=h rows a l hr
 exact ⟨eff,⟨v,a1,l1,e,hw v h1,h2⟩,hc⟩
theorem aK {n:Nat} {d:Option Tmp} {rest:List POp} {m:Option Acc} {s:AS} {ι:Type} {R: ι→Prop} {K: ι→Option Acc→AS→Prop} {x:MX} {f:FuncId} {more:List AV} {V:AV→Prop} (h:MC x f more V) (at0 left:Int) (hr:MR x s.row at0 left)
  (hk:∀ v at1 left1,V v→inR aC v=true→EG R (fun i=>aY Tryz.prog G0 n (K i) rest (adv m [1,2,3,4,5] [1]) ((s.wr [(1,x.row at1 left1)]).put d v))):EG R (fun i=>bC Tryz.prog G0 n (K i) d rest m s f (.ptr 1 0 0::more)):=by
 refine kW (h s.row at0 left hr) ?_
 rintro eff ⟨v,a1,l1,rfl,h1,h2⟩
 exact hk v a1 l1 h1 h2
theorem kT {m:Nat} (hm:6≤m):∀ r,nQ r=true→decide (r<m)=true:=fun r h=>by simp [nQ] at h ⊢;omega
theorem MR.get {x:MX} {rows:Nat→ARow} {a l:Int} (h:MR x rows a l):∀ r∈([1,2,3,4,5]:List Nat),[ARow.dead,x.row a l,x.A2,x.A3,x.A4,x.A5].getD r .none=rows r:=by
 obtain ⟨h1,h2,h3,h4,h5⟩:=h
 intro r hr
 simp only [List.mem_cons,List.not_mem_nil,or_false] at hr
 rcases hr with rfl|rfl|rfl|rfl|rfl
 ·exact h1.symm
 ·exact h2.symm
 ·exact h3.symm
 ·exact h4.symm
 ·exact h5.symm
theorem MR.ins {x:MX} (hx:x.frame) {rows:Nat→ARow} {a l:Int} (h:MR x rows a l):∀ r∈([1,2,3,4,5]:List Nat),aG nQ (rows r)=true:=by
 obtain ⟨h1,h2,h3,h4,h5⟩:=h
 intro r hr
 simp only [List.mem_cons,List.not_mem_nil,or_false] at hr
 rcases hr with rfl|rfl|rfl|rfl|rfl
 ·rw [h1];exact hx.row _ _
 ·rw [h2];exact hx.r2
 ·rw [h3];exact hx.r3
 ·rw [h4];exact hx.r4
 ·rw [h5];exact hx.r5
theorem MR.dead {x:MX} {a l:Int}:∀ r,r ∉ ([1,2,3,4,5]:List Nat)→[ARow.dead,x.row a l,x.A2,x.A3,x.A4,x.A5].getD r .none=if r< [ARow.dead,x.row a l,x.A2,x.A3,x.A4,x.A5].length then .dead else .none:=by
 intro r hr
 match r,hr with
 |0,_=>simp
 |1,hr=>exact absurd (by simp) hr
 |2,hr=>exact absurd (by simp) hr
 |3,hr=>exact absurd (by simp) hr
 |4,hr=>exact absurd (by simp) hr
 |5,hr=>exact absurd (by simp) hr
 |r+6,_=>simp
theorem MR.post {x:MX} (hx:x.frame) {rows rows':Nat→ARow} {a l a1 l1:Int} {wr:List (Nat × ARow)} (h:MR x rows' a1 l1) (hw:∀ r∈([1,2,3,4,5]:List Nat),rows' r=upd rows wr r):∀ r∈([1,2,3,4,5]:List Nat),rows' r=upd rows wr r∧aG (fun r=>([1,2,3,4,5]:List Nat).contains r) (rows' r)=true:=fun r hr=>⟨hw r hr,h.ins hx r hr⟩
theorem MR.upd {x:MX} {rows rows':Nat→ARow} {a l a1 l1:Int} (h:MR x rows a l) (h':MR x rows' a1 l1):∀ r∈([1,2,3,4,5]:List Nat),rows' r=AM.upd rows [(1,x.row a1 l1)] r:=by
 obtain ⟨h1,h2,h3,h4,h5⟩:=h
 obtain ⟨g1,g2,g3,g4,g5⟩:=h'
 intro r hr
 simp only [List.mem_cons,List.not_mem_nil,or_false] at hr
 rcases hr with rfl|rfl|rfl|rfl|rfl
 ·rw [g1];simp [eE]
 ·rw [g2];simp [eE,h2]
 ·rw [g3];simp [eE,h3]
 ·rw [g4];simp [eE,h4]
 ·rw [g5];simp [eE,h5]
theorem nJ {P:Program} {fn:Func} {R R':AV→AS→Prop} (h:∀ v s,R v s→R' v s):∀ e s,dR P fn R e s→dR P fn R' e s:=fun e s q=>by
 cases e with
 |normal=>obtain ⟨v,g1,g2⟩:=q;exact ⟨v,g1,h v s g2⟩
 |ret=>obtain ⟨v,g1,g2⟩:=q;exact ⟨v,g1,h v s g2⟩
 |exit id=>exact q.elim
 |goto l=>exact q.elim
 |panic ch=>exact q.elim
 |outgrown=>exact q.elim
theorem dK {x:MX} {f:FuncId} {fn:Func} {c:Code} {more:List AV} {V:AV→Prop} (hx:x.frame) (hf:Tryz.prog.funcs[f]? =some fn) (hb:fn.body=some c) (hgo:eP Tryz.prog f=true) (hn:more.length+1≤fn.ntmps) (hmore:inL aC more=true)
  (hbody:∀ at0 left,EG (fun i:AV × Int × Int=>V i.1∧inR aC i.1=true) (fun i=>AWp Tryz.prog G0 fn.ntmps 6 c (dR Tryz.prog fn fun v s=>v=i.1∧MR x s.row i.2.1 i.2.2) ⟨mkF (aH 0 (.ptr 1 0 0::more)),[.dead,x.row at0 left,x.A2,x.A3,x.A4,x.A5]⟩)):MC x f more V:=by
 intro rows at0 left hr
 refine vF [.dead,x.row at0 left,x.A2,x.A3,x.A4,x.A5] hG0 hf hb hgo (by simpa using hn) hr.get MR.dead ?_ (fun r h=>cY (kT (by simp)) (hr.ins hx r h)) ?_ ?_ ?_
 ·simp only [inL,inR,List.length_cons,List.length_nil,Nat.reduceAdd,Nat.reduceLT,decide_true,Bool.true_and]
  exact aD hmore
 ·intro r hr h
  simp only [List.mem_cons,List.not_mem_nil,or_false] at hr
  simp only [List.length_cons,List.length_nil] at h
  omega
 ·rintro eff ⟨v,a1,l1,rfl,_⟩ p hp
  simp at hp
  subst hp
  simp
 ·obtain ⟨i,⟨i1,i2⟩,hw⟩:=hbody at0 left
  refine EG.of ⟨i.1,[(1,x.row i.2.1 i.2.2)]⟩ ⟨_,_,_,rfl,i1,i2⟩ (iR hw (nJ fun v s=>?_))
  rintro ⟨rfl,q⟩
  exact ⟨.inl rfl,FU i2,fun r h=>⟨hr.upd q r h,q.ins hx r h⟩⟩
theorem gB {x:MX} {f:FuncId} {fn:Func} {c:Code} {args:List AV} {res:AV} (hx:x.frame) (hf:Tryz.prog.funcs[f]? =some fn) (hb:fn.body=some c) (hgo:eP Tryz.prog f=true) (hn:args.length≤fn.ntmps) (hargs:inL nQ args=true) (hres:inR nQ res=true)
  (hbody:∀ at0 left,AWp Tryz.prog G0 fn.ntmps 6 c (dR Tryz.prog fn fun v s=>v=res∧MR x s.row at0 left) ⟨mkF (aH 0 args),[.dead,x.row at0 left,x.A2,x.A3,x.A4,x.A5]⟩):∀ rows at0 left,MR x rows at0 left→dH Tryz.prog G0 f args rows [1,2,3,4,5] ⟨res,[]⟩:=by
 intro rows at0 left hr
 refine cD [.dead,x.row at0 left,x.A2,x.A3,x.A4,x.A5] hG0 hf hb hgo hn hr.get MR.dead (cC (kT (by simp)) hargs) (fun r h=>cY (kT (by simp)) (hr.ins hx r h)) ?_ (by simp) ?_
 ·intro r hr h
  simp only [List.mem_cons,List.not_mem_nil,or_false] at hr
  simp only [List.length_cons,List.length_nil] at h
  omega
 ·refine iR (hbody at0 left) (nJ fun v s=>?_)
  rintro ⟨rfl,q⟩
  refine ⟨.inl rfl,hres,fun r h=>⟨?_,q.ins hx r h⟩⟩
  rw [← q.get r h]
  exact hr.get r h
theorem cL {x:MX} {a l:Int} {fn:Func} {s:AS} {t:Tmp} {ty:TypeId} {v:AV} (h:fn.results= #[.cell t ty]) (hl:gO Tryz.prog ty (s.get t) s.row=some v) (hr:MR x s.row a l) {D:Nat} (hV:VN D v):
  EG (fun i:AV × Int × Int=>VN D i.1∧inR aC i.1=true) (fun i=>dR Tryz.prog fn (fun v s=>v=i.1∧MR x s.row i.2.1 i.2.2) .ret s):=pS h hl (EG.of (v,a,l) ⟨hV,hV.tree⟩ ⟨rfl,hr⟩)
theorem B9 {x:MX} {a l:Int} {V:AV→Prop} {fn:Func} {s:AS} {t:Tmp} {v:AV} (h:fn.results= #[.tmp t]) (hl:s.get t=v) (hr:MR x s.row a l) (hV:V v) (hi:inR aC v=true):
  EG (fun i:AV × Int × Int=>V i.1∧inR aC i.1=true) (fun i=>dR Tryz.prog fn (fun v s=>v=i.1∧MR x s.row i.2.1 i.2.2) .ret s):=HG h (EG.of (v,a,l) ⟨hV,hi⟩ ⟨hl,hr⟩)
theorem B8 {x:MX} {a l:Int} {V:AV→Prop} {fn:Func} {s:AS} {t u:Tmp} {v:AV} (h:fn.results= #[.tmp t,.tmp u]) (hl: .tup [s.get t,s.get u]=v) (hr:MR x s.row a l) (hV:V v) (hi:inR aC v=true):
  EG (fun i:AV × Int × Int=>V i.1∧inR aC i.1=true) (fun i=>dR Tryz.prog fn (fun v s=>v=i.1∧MR x s.row i.2.1 i.2.2) .ret s):=NQ h (EG.of (v,a,l) ⟨hV,hi⟩ ⟨hl,hr⟩)
theorem FB {l:List Int} {j:Nat} (h:j<l.length):∃ y,(l.map fun x=>[AV.int .i64 x])[j]? =some [AV.int .i64 y]:=⟨l[j],by rw [List.getElem?_map,List.getElem?_eq_getElem h];rfl⟩
theorem bS {x:MX} (hx:x.frame) (n:Int) (hn:0<n):MC x 102 [.int .i64 n] (VI 0 n):=by
 refine dK hx Tryz.func102 rfl (by kernel_rfl) (by simp [Tryz.ntmps102]) rfl fun at0 left=>?_
 simp only [Tryz.ntmps102,aH,Nat.reduceAdd,MX.row]
 repeat' (first|(refine u'S ?_;simp only [wS,simprocAttr])|refine v'Q fun _ _=>?_|refine bB ?_|refine aZ (fun hg=>?_) fun hg=>?_|fail)
 refine f5 hG0 (rP x.L _ n hx.L (by omega)) ?_
 simp only [wS,simprocAttr]
 repeat' (first|(refine u'S ?_;simp only [wS,simprocAttr])|refine v'Q fun _ _=>?_|refine bB ?_|refine aZ (fun hg=>?_) fun hg=>?_|fail)
 exact B9 (a:=IntKind.i64.wrap (at0+1)) rfl rfl (by refine ⟨?_,?_,?_,?_,?_⟩<;>((try simp only [wS,simprocAttr,MX.row]);try exact rfl)) ⟨_,rfl,HO x.L _ n hn⟩ rfl
theorem node_ok {d:Nat} {x:MX} (hx:x.frame) (k n:Int) (b:Bool) (es:List (List AV)) (hl:es.length≤6) (hes:∀ e∈es,NodeV d e):MC x 125 [.int .i64 k,.int .i64 n,.sl b es] (fun v=>v=.agg [.int .i64 k,.int .i64 n,.int .i64 0,.sl b es]∧NodeV (d+1) [.int .i64 k,.int .i64 n,.int .i64 0,.sl b es]):=by
 have hv:NodeV (d+1) [.int .i64 k,.int .i64 n,.int .i64 0,.sl b es]:=.mk (hd:=Nat.lt_succ_self d) k n 0 b es hl hes
 refine dK hx Tryz.func125 rfl (by kernel_rfl) (by simp [Tryz.ntmps125]) (by simpa [inL,inR] using cZ hes) fun at0 left=>?_
 simp only [Tryz.ntmps125,aH,Nat.reduceAdd,MX.row]
 repeat' (first|(refine u'S ?_;simp only [wS,simprocAttr])|refine v'Q fun _ _=>?_|refine bB ?_|refine aZ (fun hg=>?_) fun hg=>?_|fail)
 exact pS rfl u'p (EG.of (.agg [.int .i64 k,.int .i64 n,.int .i64 0,.sl b es],_,_) ⟨⟨rfl,hv⟩,hv.tree⟩ ⟨rfl,(by refine ⟨?_,?_,?_,?_,?_⟩<;>((try simp only [wS,simprocAttr,MX.row]);try exact rfl))⟩)
end Go.Proofs.YtggflhbigolakaaGreatDoor
