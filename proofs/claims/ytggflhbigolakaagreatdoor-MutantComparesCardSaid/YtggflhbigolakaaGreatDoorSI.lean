import Derived.Test.YtggflhbigolakaaGreatDoorP1
import Derived.Test.YtggflhbigolakaaGreatDoorSF
set_option linter.unusedVariables false
set_option linter.unusedSimpArgs false
namespace Go.Proofs.YtggflhbigolakaaGreatDoor
open Go.AM
attribute [local irreducible] AWp aY bC bI bU bW aN aS bL
set_option maxRecDepth 100000
theorem U5 (p:List Int) (hl:p.length≤1000000000000):Pure Tryz.prog G0 68 [.sl false (aE p)] (.sl false (aE p)):=by
 have ht:inE aC (aE p)=true:=aW p
 have h1:∀ e∈aE p,e.length=1:=fun e he=>by
  obtain ⟨x,_,rfl⟩:=List.mem_map.1 he
  rfl
 have hall:(aE p).all (fun e=>decide (e.length=1))=true:=List.all_eq_true.2 fun e he=>by simpa using h1 e he
 have hpl:(aE p).length=p.length:=by simp [aE]
 have hwk:AM.wk (.sl false (aE p))=.sl false (aE p):=by
  have:=D3 [p]
  simp only [PE,List.map_cons,List.map_nil,wkL,List.cons.injEq,and_true] at this
  exact this
 by_cases hp:p=[]
 ·subst hp
  exact UF
 ·have hne:aE p≠[]:=fun h=>hp (by have:=hpl;rw [h] at this;exact List.eq_nil_of_length_eq_zero this.symm)
  generalize aE p=ip at ht h1 hall hpl hwk hne ⊢
  refine aQ hG0 Tryz.func68 rfl (by kernel_rfl) (by simp [Tryz.ntmps68]) (by simp only [inL,inR,ht,Bool.and_self]) (by simp only [inR];exact ht) ?_
  simp only [Tryz.ntmps68,aH,Nat.reduceAdd]
  have hem:ip.isEmpty=false:=by simpa using hne
  have hpos:0<ip.length:=List.length_pos_iff.2 hne
  refine jD ?_
  repeat' (first|(refine u'S ?_;simp only [wS,simprocAttr,hem,Bool.not_false])|refine u'Q fun _ _=>?_|refine aV ?_|refine aR (fun hg=>?_) fun hg=>?_|fail)
  refine f8 (sz:=1) (by':=8) (mm:=ip.length) (new:=ip.flatten) (es:=[]) (by kernel_rfl) ?hb (by simp) (lR hall) (by omega) (by simp only [List.length_nil];omega) ?_
  case hb=>simp only [wS,simprocAttr];try exact rfl
  simp only [wS,simprocAttr]
  repeat' (first|(refine u'S ?_;simp only [wS,simprocAttr])|refine u'Q fun _ _=>?_|refine aV ?_|refine aR (fun hg=>?_) fun hg=>?_|fail)
  refine ⟨_,UU [] hG0 (t:=2) (r:=0) (ver:=0) (m:=ip.length) (sz:=1) (full:=false) (es:=ip) (cs:=ip.flatten) u'q u'p (by rw [List.take_of_length_le];rw [cG h1];exact Nat.le_refl _) rfl h1 ht trivial (by simp),aB rfl ?_⟩
  simp only [wS,simprocAttr]
abbrev OpT:=ByteArray × T × T × Int
def opC (o:OpT):List AV:=opE o.1 o.2.1 o.2.2.1 o.2.2.2
def qV (o:OpT) (t:T):Option T:=T.app o.1 o.2.1 o.2.2.1 o.2.2.2 t
def DU (p:List Int) (k:Nat):Option T→List (List Int × Nat)
 |some _=>[(p,k)]
 |none=>[]
def fL (t:T) (p:List Int):List OpT→Nat→List (List Int × Nat)
 | [],_=>[]
 |o::ol,k=>DU p k (qV o t)++fL t p ol (k+1)
def dC (t:T) (ol:List OpT):List (List Int)→List (List Int × Nat)
 | []=>[]
 |p::ps=>(match T.sub t p with|some t'=>fL t' p ol 0|none=>[])++dC t ol ps
def dJ (t:T) (ol:List OpT):List (List Int × Nat):=if 24<ol.length then [] else dC t ol (T.paths t)
def SE (l:List (List Int × Nat)):List (List AV):=l.map fun x=>[.sl false (aE x.1),.int .i64 (x.2:Nat)]
theorem eI:∀ ol:List OpT,inE aC (ol.map opC)=true
 | []=>rfl
 |o::ol=>by simp only [List.map_cons,inE,opC,gI,eI ol,Bool.and_self]
theorem qB:∀ l:List (List Int × Nat),inE aC (SE l)=true
 | []=>rfl
 |x::l=>by
  have h:=qB l
  have hx:inE aC (aE x.1)=true:=aW x.1
  simp only [SE,List.map_cons,inE,inL,inR,hx,Bool.true_and] at h ⊢
  exact h
theorem OX (l:List (List Int × Nat)):∀ e∈SE l,e.length=2:=fun e he=>by
 obtain ⟨x,_,rfl⟩:=List.mem_map.1 he
 rfl
theorem M4 (l:List (List Int × Nat)):(SE l).length=l.length:=List.length_map ..
theorem QT (a b:List (List Int × Nat)):SE (a++b)=SE a++SE b:=List.map_append ..
theorem DT (t:T) (p:List Int):∀ (a b:List OpT) (k:Nat),fL t p (a++b) k=fL t p a k++fL t p b (k+a.length)
 | [],b,k=>by simp [fL]
 |o::a,b,k=>by
  rw [List.cons_append,fL,fL,DT t p a b (k+1),List.length_cons,List.append_assoc,show k+1+a.length=k+(a.length+1) by omega]
theorem IF {t:T} {p:List Int} {ol:List OpT} {j:Nat} {o:OpT} (h:ol[j]? =some o):fL t p (ol.take (j+1)) 0=fL t p (ol.take j) 0++DU p j (qV o t):=by
 have hj:=(List.getElem?_eq_some_iff.1 h).1
 rw [List.take_add_one,h,DT]
 simp only [Option.toList_some,fL,List.append_nil,List.length_take,Nat.zero_add,Nat.min_eq_left (by omega:j≤ol.length)]
theorem uY (t:T) (p:List Int):∀ (ol:List OpT) (k:Nat),(fL t p ol k).length≤ol.length
 | [],_=>by simp [fL]
 |o::ol,k=>by
  have:=uY t p ol (k+1)
  rw [fL,List.length_append,List.length_cons]
  have h:(DU p k (qV o t)).length≤1:=by cases qV o t<;>simp [DU]
  omega
theorem tI (t:T) (ol:List OpT):∀ (a b:List (List Int)),dC t ol (a++b)=dC t ol a++dC t ol b
 | [],b=>by simp [dC]
 |p::a,b=>by rw [List.cons_append,dC,dC,tI t ol a b,List.append_assoc]
theorem CQ {t t':T} {ol:List OpT} {ps:List (List Int)} {i:Nat} {p:List Int} (h:ps[i]? =some p) (h2:T.sub t p=some t'):dC t ol (ps.take (i+1))=dC t ol (ps.take i)++fL t' p ol 0:=by
 rw [List.take_add_one,h,tI]
 simp only [Option.toList_some,dC,h2,List.append_nil]
theorem kC (t:T) (ol:List OpT):∀ ps:List (List Int),(dC t ol ps).length≤ps.length*ol.length
 | []=>by simp [dC]
 |p::ps=>by
  have h1:=kC t ol ps
  rw [dC,List.length_append,List.length_cons,Nat.add_mul,Nat.one_mul]
  have h2:(match T.sub t p with|some t'=>fL t' p ol 0|none=>[]).length≤ol.length:=by
   split
   ·exact uY _ _ _ _
   ·simp
  omega
theorem vv {app:List (List AV)} {e:List AV}:(app++[e]).length - 1=if app=[] then 0 else app.length - 1+1:=by
 by_cases h:app=[]
 ·rw [if_pos h,h];rfl
 ·have:=List.length_pos_iff.2 h
  rw [if_neg h,List.length_append,List.length_singleton];omega
end Go.Proofs.YtggflhbigolakaaGreatDoor
