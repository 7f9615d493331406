import Derived.Test.YtggflhbigolakaaGreatDoorP1
import Derived.Test.YtggflhbigolakaaGreatDoorSF
set_option linter.unusedVariables false
set_option linter.unusedSimpArgs false
namespace Go.Proofs.YtggflhbigolakaaGreatDoor
open Go.AM
attribute [local irreducible] AWp aY bC bI bU bW aN aS bL
set_option maxRecDepth 100000
abbrev OpT:=ByteArray × T × T × Int
def opC (o:OpT):List AV:=opE o.1 o.2.1 o.2.2.1 o.2.2.2
def qV (o:OpT) (t:T):Option T:=T.app o.1 o.2.1 o.2.2.1 o.2.2.2 t
def DU (p:List Int) (k:Nat):Option T→List (List Int × Nat)
 |some _=>[(p,k)]
 |none=>[]
def fL (t:T) (p:List Int):List OpT→Nat→List (List Int × Nat)
 | [],_=>[]
 |o::ol,k=>DU p k (qV o t)++fL t p ol (k+1)
def dC (t:T) (ol:List OpT):List (List Int)→List (List Int × Nat)
 | []=>[]
 |p::ps=>(match T.sub t p with|some t'=>fL t' p ol 0|none=>[])++dC t ol ps
def dJ (t:T) (ol:List OpT):List (List Int × Nat):=if 24<ol.length then [] else dC t ol (T.paths t)
def SE (l:List (List Int × Nat)):List (List AV):=l.map fun x=>[.sl false (aE x.1),.int .i64 (x.2:Nat)]
theorem eI:∀ ol:List OpT,inE aC (ol.map opC)=true
 | []=>rfl
 |o::ol=>by simp only [List.map_cons,inE,opC,gI,eI ol,Bool.and_self]
theorem qB:∀ l:List (List Int × Nat),inE aC (SE l)=true
 | []=>rfl
 |x::l=>by
  have h:=qB l
  have hx:inE aC (aE x.1)=true:=aW x.1
  simp only [SE,List.map_cons,inE,inL,inR,hx,Bool.true_and] at h ⊢
  exact h
theorem OX (l:List (List Int × Nat)):∀ e∈SE l,e.length=2:=fun e he=>by
 obtain ⟨x,_,rfl⟩:=List.mem_map.1 he
 rfl
theorem M4 (l:List (List Int × Nat)):(SE l).length=l.length:=List.length_map ..
theorem QT (a b:List (List Int × Nat)):SE (a++b)=SE a++SE b:=List.map_append ..
theorem DT (t:T) (p:List Int):∀ (a b:List OpT) (k:Nat),fL t p (a++b) k=fL t p a k++fL t p b (k+a.length)
 | [],b,k=>by simp [fL]
 |o::a,b,k=>by
  rw [List.cons_append,fL,fL,DT t p a b (k+1),List.length_cons,List.append_assoc,show k+1+a.length=k+(a.length+1) by omega]
theorem IF {t:T} {p:List Int} {ol:List OpT} {j:Nat} {o:OpT} (h:ol[j]? =some o):fL t p (ol.take (j+1)) 0=fL t p (ol.take j) 0++DU p j (qV o t):=by
 have hj:=(List.getElem?_eq_some_iff.1 h).1
 rw [List.take_add_one,h,DT]
 simp only [Option.toList_some,fL,List.append_nil,List.length_take,Nat.zero_add,Nat.min_eq_left (by omega:j≤ol.length)]
theorem uY (t:T) (p:List Int):∀ (ol:List OpT) (k:Nat),(fL t p ol k).length≤ol.length
 | [],_=>by simp [fL]
 |o::ol,k=>by
  have:=uY t p ol (k+1)
  rw [fL,List.length_append,List.length_cons]
  have h:(DU p k (qV o t)).length≤1:=by cases qV o t<;>simp [DU]
  omega
theorem tI (t:T) (ol:List OpT):∀ (a b:List (List Int)),dC t ol (a++b)=dC t ol a++dC t ol b
 | [],b=>by simp [dC]
 |p::a,b=>by rw [List.cons_append,dC,dC,tI t ol a b,List.append_assoc]
theorem CQ {t t':T} {ol:List OpT} {ps:List (List Int)} {i:Nat} {p:List Int} (h:ps[i]? =some p) (h2:T.sub t p=some t'):dC t ol (ps.take (i+1))=dC t ol (ps.take i)++fL t' p ol 0:=by
 rw [List.take_add_one,h,tI]
 simp only [Option.toList_some,dC,h2,List.append_nil]
theorem kC (t:T) (ol:List OpT):∀ ps:List (List Int),(dC t ol ps).length≤ps.length*ol.length
 | []=>by simp [dC]
 |p::ps=>by
  have h1:=kC t ol ps
  rw [dC,List.length_append,List.length_cons,Nat.add_mul,Nat.one_mul]
  have h2:(match T.sub t p with|some t'=>fL t' p ol 0|none=>[]).length≤ol.length:=by
   split
   ·exact uY _ _ _ _
   ·simp
  omega
theorem vv {app:List (List AV)} {e:List AV}:(app++[e]).length - 1=if app=[] then 0 else app.length - 1+1:=by
 by_cases h:app=[]
 ·rw [if_pos h,h];rfl
 ·have:=List.length_pos_iff.2 h
  rw [if_neg h,List.length_append,List.length_singleton];omega
end Go.Proofs.YtggflhbigolakaaGreatDoor
