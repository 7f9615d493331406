import Derived.Test.YtggflhbigolakaaGreatDoorAA
import Derived.Orders
import Derived.OrdersIn
set_option linter.unusedVariables false
set_option linter.unusedSimpArgs false
namespace Go.AM
abbrev POp:=Option Tmp × Op × Option (Option Tmp × Bool)
def dQ (ops:Array Oper):List POp:=ops.toList.map fun o=>(o.dst,o.op,o.guard.map fun p=>((ops[p.1]?).bind (·.dst),p.2))
def BX (g:Option (Option Tmp × Bool)) (s:AS):Option Bool:=
 match g with
 |none=>some true
 |some (some d,want)=>match s.get d with
  | .bool b=>some (b==want)
  | .tup []=>some false
  |_=>none
 |some (none,_)=>none
abbrev Acc:=List (List Nat × List Nat)
def adv:Option Acc→List Nat→List Nat→Option Acc
 |none,_,_=>none
 |some a,f,w=>some ((f,w)::a)
def bZ:AV→List Nat
 | .ptr r _ _=>[r]
 | .osl r _ _ _ _ _=>[r]
 | .rsl r _ _ _ _=>[r]
 | .rsv r=>[r]
 | .omp r=>[r]
 | .yld r=>[r]
 |_=>[]
def fpA (o:Op) (ev:Operand→AV):List Nat:=
 match o with
 | .load _ x=>bZ (ev x)
 | .nilCheck x=>bZ (ev x)
 | .fieldAddr _ x _=>bZ (ev x)
 | .store _ x _=>bZ (ev x)
 | .binOp _ _ x _ _=>bZ (ev x)
 | .slice _ x _ _ _=>bZ (ev x)
 | .indexAddr _ x _=>bZ (ev x)
 | .lookup _ x _ _=>bZ (ev x)
 | .mapUpdate _ x _ _=>bZ (ev x)
 | .insert _ x _ _=>bZ (ev x)
 | .entry x=>bZ (ev x)
 | .call c=>match c.callee with
  | .builtin _=>(c.args.toList.map ev).flatMap bZ
  |_=>[]
 |_=>[]
def OpC (P:Program) (G:Nat→Option (List AV)) (o:Op) (ev:Operand→AV) (rows:Nat→ARow) (nb:Nat) (fp:List Nat) (eff:Eff):Prop:=
 match eQ o ev with
 |some (f,args)=>dH P G f args rows fp eff
 |none=>match iZ o ev with
  |some (r,args)=>GC P G r args rows fp eff
  |none=>aop P o ev rows nb=some eff∧fp=fpA o ev
theorem OpC.astep {P:Program} {G:Nat→Option (List AV)} {o:Op} {ev:Operand→AV} {rows:Nat→ARow} {nb:Nat} {fp:List Nat} {eff:Eff} (h:OpC P G o ev rows nb fp eff):zK P G o ev rows nb eff:=by
 unfold OpC at h
 unfold zK
 split at h
 ·rename_i hc;rw [hc];exact ⟨_,h⟩
 ·rename_i hc
  rw [hc]
  split at h
  ·rename_i hy;rw [hy];exact ⟨_,h⟩
  ·rename_i hy;rw [hy];exact h.1
def opR (P:Program) (G:Nat→Option (List AV)) (o:Op) (s:AS) (m:Option Acc) (KE:Eff→Option Acc→Prop):Prop:=
 match o with
 | .next x false=>m=none∧∃ r ks vs left last,evA G s.get x=.ptr r 0 0∧s.row r=.iter ks vs left last∧(left=[]→KE ⟨.tup [.bool false],[]⟩ none)∧
   ∀ j k v,j∈left→ks[j]? =some k→vs[j]? =some v→KE ⟨.tup [.bool true,k,v],[(r,.iter ks vs (left.erase j) j)]⟩ none
 |o=>∃ eff fp,OpC P G o (evA G s.get) s.row s.h.length fp eff∧KE eff (adv m fp (eff.wr.map (·.1)))
def aY (P:Program) (G:Nat→Option (List AV)) (n:Nat) (K:Option Acc→AS→Prop):List POp→Option Acc→AS→Prop
 | [],m,s=>K m s
 |p::rest,m,s=>gM n p.1∧
  match BX p.2.2 s with
  |some true=>opR P G p.2.1 s m fun eff m'=>aY P G n K rest m' (s.apply p.1 eff)
  |some false=>aY P G n K rest (adv m [] []) (s.put p.1 (.tup []))
  |none=>False
theorem lK (ops:Array Oper) (o:Oper) (s:AS):iB ops o s=BX (o.guard.map fun p=>((ops[p.1]?).bind (·.dst),p.2)) s:=by
 unfold iB BX
 cases o.guard with
 |none=>rfl
 |some p=>
  obtain ⟨j,w⟩:=p
  simp only [Option.map_some]
  cases (ops[j]?).bind (·.dst)<;>rfl
theorem I5 {P:Program} {G:Nat→Option (List AV)} {op:Op} {s:AS} {KE:Eff→Option Acc→Prop} {K':Eff→Prop} (h:opR P G op s none KE) (hk:∀ e,KE e none→K' e):C9 P G op s K':=by
 unfold opR at h
 split at h
 ·obtain ⟨_,r,ks,vs,left,last,a1,a2,a3,a4⟩:=h
  exact ⟨r,ks,vs,left,last,a1,a2,fun h=>hk _ (a3 h),fun j k v h1 h2 h3=>hk _ (a4 j k v h1 h2 h3)⟩
 ·rename_i hne
  obtain ⟨eff,fp,a1,a2⟩:=h
  unfold C9
  split
  ·rename_i x;exact absurd rfl (hne x)
  ·exact ⟨eff,a1.astep,hk _ a2⟩
theorem kD {P:Program} {G:Nat→Option (List AV)} {n:Nat} {ops:Array Oper} {K:AS→Prop}:∀ (l:List Oper) (s:AS),aY P G n (fun _=>K) (l.map fun o=>(o.dst,o.op,o.guard.map fun p=>((ops[p.1]?).bind (·.dst),p.2))) none s→rgn P G n ops K l s
 | [],s,h=>h
 |o::rest,s,h=>by
  simp only [List.map_cons,aY] at h
  simp only [rgn,lK]
  refine ⟨h.1,?_⟩
  have h2:=h.2
  split
  ·rename_i hw
   rw [hw] at h2
   exact I5 h2 fun e he=>kD rest _ he
  ·rename_i hw
   rw [hw] at h2
   exact kD rest _ h2
  ·rename_i hw
   rw [hw] at h2
   exact h2
section
variable [Rnd] {P:Program} {G:Nat→Option (List AV)} {n k:Nat} {Q:Exit→AS→Prop} {s:AS}
theorem BH {id:Nat} {ops:Array Oper} (h:aY P G n (fun _=>Q .normal) (dQ ops) none s):AWp P G n k (.region id ops false) Q s:=G4 (kD _ _ h)
def Cont (P:Program) (G:Nat→Option (List AV)) (n k:Nat) (y:Code) (Q:Exit→AS→Prop) (K:AS→Prop):Prop:=∀ s,AWp P G n k y Q s→K s
theorem Cont.go {y:Code} {K:AS→Prop} (c:Cont P G n k y Q K) (h:AWp P G n k y Q s):K s:=c s h
def Arm (P:Program) (G:Nat→Option (List AV)) (n k:Nat) (y:Code) (Q:Exit→AS→Prop) (s:AS) (X:Prop):Prop:=AWp P G n k y Q s→X
theorem Arm.go {y:Code} {X:Prop} (c:Arm P G n k y Q s X) (h:AWp P G n k y Q s):X:=c h
def jC (X Y:Prop):AV→Prop
 | .bool b=>(b=true→X)∧(b=false→Y)
 | .anyb=>X∧Y
 |_=>False
theorem G5 {c:Operand} {x y:Code} (h:∀ X Y:Prop,Arm P G n k x Q s X→Arm P G n k y Q s Y→jC X Y (evA G s.get c)):AWp P G n k (.cond c x y) Q s:=by
 have h1:=h _ _ id id
 unfold jC at h1
 split at h1
 ·rename_i b hb
  exact pZ hb h1.1 h1.2
 ·rename_i hb
  exact k8 hb h1.1 h1.2
 ·exact h1.elim
theorem IQ {x y:Code} (h:∀ K:AS→Prop,Cont P G n k y Q K→AWp P G n k x (lH K Q) s):AWp P G n k (.seq x y) Q s:=BG (h _ fun _ h=>h)
end
section
variable {G:Nat→Option (List AV)} {k:Nat} {s:AS}
def Again {α:Type} (G:Nat→Option (List AV)) (k:Nat) (fr: α→List (Nat × AV)) (h: α→List ARow) (μ: α→Nat) (x: α) (K:AS→Prop):Prop:=∀ s' y,Weak G k s' (fr y) (h y)→μ y< μ x→K s'
theorem Again.go {α:Type} {fr: α→List (Nat × AV)} {h: α→List ARow} {μ: α→Nat} {x: α} {K:AS→Prop} (c:Again G k fr h μ x K) (y: α) (hw:Weak G k s (fr y) (h y)) (hm: μ y< μ x):K s:=c s y hw hm
end
section
variable [Rnd] {P:Program} {G:Nat→Option (List AV)} {n k:Nat} {Q:Exit→AS→Prop} {s:AS}
end
def bW (P:Program) (G:Nat→Option (List AV)) (n:Nat) (K:Option Acc→AS→Prop) (d:Option Tmp) (rest:List POp) (m:Option Acc) (fp:List Nat) (s:AS):Option AV→Prop
 |some v=>aY P G n K rest (adv m fp []) (s.put d v)
 |none=>False
def bU (P:Program) (G:Nat→Option (List AV)) (n:Nat) (K:Option Acc→AS→Prop) (d:Option Tmp) (rest:List POp) (m:Option Acc) (fp:List Nat) (s:AS):Option Eff→Prop
 |some e=>aY P G n K rest (adv m fp (e.wr.map (·.1))) ((s.wr e.wr).put d e.val)
 |none=>False
def bC (P:Program) (G:Nat→Option (List AV)) (n:Nat) (K:Option Acc→AS→Prop) (d:Option Tmp) (rest:List POp) (m:Option Acc) (s:AS) (f:FuncId) (args:List AV):Prop:=
 ∃ eff fp,dH P G f args s.row fp eff∧aY P G n K rest (adv m fp (eff.wr.map (·.1))) ((s.wr eff.wr).put d eff.val)
def SG (P:Program) (G:Nat→Option (List AV)) (n:Nat) (K:Option Acc→AS→Prop) (d:Option Tmp) (rest:List POp) (m:Option Acc) (s:AS) (r:Nat) (args:List AV):Prop:=
 ∃ eff fp,GC P G r args s.row fp eff∧aY P G n K rest (adv m fp (eff.wr.map (·.1))) ((s.wr eff.wr).put d eff.val)
def bI (P:Program) (G:Nat→Option (List AV)) (n:Nat) (K:Option Acc→AS→Prop) (d:Option Tmp) (rest:List POp) (m:Option Acc) (s:AS) (args:List AV):AV→Prop
 | .fn (.func f) first cap=>bC P G n K d rest m s f (first++args++cap)
 | .yld r=>SG P G n K d rest m s r args
 |_=>False
def bL (P:Program) (G:Nat→Option (List AV)) (n:Nat) (K:Option Acc→AS→Prop) (d:Option Tmp) (rest:List POp) (m:Option Acc) (s:AS) (x:AV):Prop:=
 m=none∧∃ r ks vs left last,x=.ptr r 0 0∧s.row r=.iter ks vs left last∧(left=[]→aY P G n K rest none (s.put d (.tup [.bool false])))∧
   ∀ j k v,j∈left→ks[j]? =some k→vs[j]? =some v→aY P G n K rest none ((s.wr [(r,.iter ks vs (left.erase j) j)]).put d (.tup [.bool true,k,v]))
def aS (P:Program) (G:Nat→Option (List AV)) (n:Nat) (K:Option Acc→AS→Prop) (d:Option Tmp) (rest:List POp) (m:Option Acc) (s:AS) (op:Op):Prop:=opR P G op s m fun eff m'=>aY P G n K rest m' (s.apply d eff)
section
variable {P:Program} {G:Nat→Option (List AV)} {n:Nat} {K:Option Acc→AS→Prop} {d:Option Tmp} {rest:List POp} {m:Option Acc} {fp:List Nat} {s:AS}
theorem CU:aY P G n K [] m s=K m s:=rfl
theorem xL {op:Op}:aY P G n K ((d,op,none)::rest) m s=(gM n d∧aS P G n K d rest m s op):=rfl
def aN (P:Program) (G:Nat→Option (List AV)) (n:Nat) (K:Option Acc→AS→Prop) (d:Option Tmp) (rest:List POp) (m:Option Acc) (s:AS) (op:Op) (want:Bool):AV→Prop
 | .bool b=>if b=want then aS P G n K d rest m s op else aY P G n K rest (adv m [] []) (s.put d (.tup []))
 | .tup []=>aY P G n K rest (adv m [] []) (s.put d (.tup []))
 |_=>False
theorem tR {op:Op} {g:Tmp} {want:Bool}:aY P G n K ((d,op,some (some g,want))::rest) m s=(gM n d∧aN P G n K d rest m s op want (s.get g)):=by
 simp only [aY,BX,aN,aS]
 congr 1
 cases hg:s.get g<;>try rfl
 case bool b=>cases b<;>cases want<;>rfl
 case tup vs=>cases vs<;>rfl
theorem rF {op:Op} {want:Bool}:aN P G n K d rest m s op want (.tup [])=aY P G n K rest (adv m [] []) (s.put d (.tup [])):=rfl
theorem vG {t:Nat}:gM n (some t)=(t<n):=rfl
theorem vH:gM n none=True:=rfl
theorem w8 {v:AV}:bW P G n K d rest m fp s (some v)=aY P G n K rest (adv m fp []) (s.put d v):=rfl
theorem w9:bW P G n K d rest m fp s none=False:=rfl
theorem C2 {c:Prop} [Decidable c] {x y:Option AV}:bW P G n K d rest m fp s (if c then x else y)=((c→bW P G n K d rest m fp s x)∧(¬ c→bW P G n K d rest m fp s y)):=by
 by_cases h:c<;>simp [h]
theorem yX {v:AV} {wr:List (Nat × ARow)}:bU P G n K d rest m fp s (some ⟨v,wr⟩)=aY P G n K rest (adv m fp (wr.map (·.1))) ((s.wr wr).put d v):=rfl
theorem yY:bU P G n K d rest m fp s none=False:=rfl
theorem E8 {c:Prop} [Decidable c] {x y:Option Eff}:bU P G n K d rest m fp s (if c then x else y)=((c→bU P G n K d rest m fp s x)∧(¬ c→bU P G n K d rest m fp s y)):=by
 by_cases h:c<;>simp [h]
theorem cX {op:Op} {o:Option AV} (h:opR P G op s m=fun K'=>∃ eff fp',(o.map (⟨·,[]⟩)=some eff∧fp'=fp)∧K' eff (adv m fp' (eff.wr.map (·.1)))):aS P G n K d rest m s op=bW P G n K d rest m fp s o:=by
 unfold aS
 rw [h]
 cases o with
 |none=>simp [bW]
 |some v=>
  simp only [Option.map_some,Option.some.injEq,bW,AS.apply]
  exact propext ⟨fun ⟨_,_,⟨rfl,rfl⟩,h⟩=>h,fun h=>⟨_,_,⟨rfl,rfl⟩,h⟩⟩
theorem fU {op:Op} {o:Option Eff} (h:opR P G op s m=fun K'=>∃ eff fp',(o=some eff∧fp'=fp)∧K' eff (adv m fp' (eff.wr.map (·.1)))):aS P G n K d rest m s op=bU P G n K d rest m fp s o:=by
 unfold aS
 rw [h]
 cases o with
 |none=>simp [bU]
 |some v=>
  simp only [Option.some.injEq,bU,AS.apply]
  exact propext ⟨fun ⟨_,_,⟨rfl,rfl⟩,h⟩=>h,fun h=>⟨_,_,⟨rfl,rfl⟩,h⟩⟩
theorem GM {x:Operand}:aS P G n K d rest m s (.move x)=aY P G n K rest (adv m [] []) (s.put d (evA G s.get x)):=by
 refine (cX (o:=some (evA G s.get x)) ?_).trans rfl
 funext K';rfl
theorem xF {x:Operand}:aS P G n K d rest m s (.assign x)=aY P G n K rest (adv m [] []) (s.put d (evA G s.get x)):=by
 refine (cX (o:=some (evA G s.get x)) ?_).trans rfl
 funext K';rfl
def K8 (c a b:AV):Option AV:=match c with| .bool t=>some (if t=true then a else b)|_=>none
theorem GL {c a b:Operand}:aS P G n K d rest m s (.pick c a b)=bW P G n K d rest m [] s (K8 (evA G s.get c) (evA G s.get a) (evA G s.get b)):=by
 refine cX ?_
 funext K'
 simp only [opR,OpC,fpA,eQ,aop,K8]
 cases evA G s.get c<;>rfl
theorem CN {t:TypeId}:aS P G n K d rest m s (.alloc t)=bU P G n K d rest m [] s ((bM P t).bind fun z=>wD z s.row s.h.length):=by
 refine fU ?_
 funext K'
 simp only [opR,OpC,fpA,eQ,aop]
 cases bM P t<;>rfl
theorem JG {t:TypeId} {x:Operand}:aS P G n K d rest m s (.box t x)=bU P G n K d rest m [] s (wD (evA G s.get x) s.row s.h.length):=fU rfl
theorem CL {t:TypeId} {ps:Array (Nat × Operand)}:aS P G n K d rest m s (.build t ps)=bW P G n K d rest m [] s (eL P t (ps.toList.map fun p=>(p.1,evA G s.get p.2))):=cX rfl
theorem nR {t:TypeId} {len:Nat} {ps:Array (Nat × Operand)}:aS P G n K d rest m s (.buildSlice t len ps)=bW P G n K d rest m [] s (fT P t len (ps.toList.map fun p=>(p.1,evA G s.get p.2))):=cX rfl
theorem GN {t:TypeId} {x:Operand}:aS P G n K d rest m s (.load t x)=bW P G n K d rest m (bZ (evA G s.get x)) s (gO P t (evA G s.get x) s.row):=cX rfl
theorem CD {t:TypeId} {x y:Operand}:aS P G n K d rest m s (.store t x y)=bU P G n K d rest m (bZ (evA G s.get x)) s (lB P t (evA G s.get x) (evA G s.get y) s.row):=fU rfl
theorem q8 {x:Operand}:aS P G n K d rest m s (.nilCheck x)=bW P G n K d rest m (bZ (evA G s.get x)) s (fS (evA G s.get x) s.row):=cX rfl
theorem CM {op:BinOp} {t yt:TypeId} {x y:Operand}:aS P G n K d rest m s (.binOp op t x y yt)=bW P G n K d rest m (bZ (evA G s.get x)) s (BQ P op t x y (evA G s.get x) (evA G s.get y) s.row):=cX rfl
theorem GK {op:UnOp} {t:TypeId} {x:Operand}:aS P G n K d rest m s (.unOp op t x)=bW P G n K d rest m [] s (aUn op (evA G s.get x)):=cX rfl
theorem s9 {t u:TypeId} {x:Operand}:aS P G n K d rest m s (.convert t u x)=bW P G n K d rest m [] s (j7 P t u (evA G s.get x)):=cX rfl
theorem q9 {f:Fn} {a b:Array Operand}:aS P G n K d rest m s (.makeFunc f a b)=aY P G n K rest (adv m [] []) (s.put d (.fn f (a.toList.map (evA G s.get)) (b.toList.map (evA G s.get)))):=(cX (o:=some _) rfl).trans rfl
def pE (x:ARow) (nb:Nat):Option Eff:=match x with| .none=>some ⟨.omp nb,[(nb,.map [] [])]⟩|_=>none
theorem s7 {t:TypeId}:aS P G n K d rest m s (.makeMap t none)=bU P G n K d rest m [] s (pE (s.row s.h.length) s.h.length):=by
 refine fU ?_
 funext K'
 simp only [opR,OpC,fpA,eQ,aop,pE]
 cases s.row s.h.length<;>rfl
theorem oX {t:TypeId} {l c:Operand}:aS P G n K d rest m s (.makeSlice t l c)=bU P G n K d rest m [] s (eR P t (evA G s.get l) (evA G s.get c) s.row s.h.length):=fU rfl
theorem CF {t:TypeId} {x:Operand} {lo hi mx:Option Operand}:aS P G n K d rest m s (.slice t x lo hi mx)=bW P G n K d rest m (bZ (evA G s.get x)) s (lC P t (evA G s.get x) (lo.map (evA G s.get)) (hi.map (evA G s.get)) (mx.map (evA G s.get)) s.row):=cX rfl
theorem oZ {t:TypeId} {x:Operand} {f:Nat}:aS P G n K d rest m s (.fieldAddr t x f)=bW P G n K d rest m (bZ (evA G s.get x)) s (bA P t (evA G s.get x) f s.row):=cX rfl
theorem CI {t:TypeId} {x:Operand} {f:Nat}:aS P G n K d rest m s (.field t x f)=bW P G n K d rest m [] s (BP P t (evA G s.get x) f):=cX rfl
theorem oY {t:TypeId} {x i:Operand}:aS P G n K d rest m s (.indexAddr t x i)=bW P G n K d rest m (bZ (evA G s.get x)) s (eS P t (evA G s.get x) (evA G s.get i) s.row):=cX rfl
theorem CH {t:TypeId} {x i:Operand}:aS P G n K d rest m s (.index t x i)=bW P G n K d rest m [] s (qY P t (evA G s.get x) (evA G s.get i)):=cX rfl
theorem xD {t:TypeId} {x i:Operand} {ok:Bool}:aS P G n K d rest m s (.lookup t x i ok)=bW P G n K d rest m (bZ (evA G s.get x)) s (g8 P t (evA G s.get x) (evA G s.get i) ok s.row):=cX rfl
theorem oW {t:TypeId} {m' k x:Operand}:aS P G n K d rest m s (.mapUpdate t m' k x)=bU P G n K d rest m (bZ (evA G s.get m')) s (dL P t (evA G s.get m') (evA G s.get k) (evA G s.get x) s.row):=fU rfl
theorem xE {t:TypeId} {m' k x:Operand}:aS P G n K d rest m s (.insert t m' k x)=bU P G n K d rest m (bZ (evA G s.get m')) s (dL P t (evA G s.get m') (evA G s.get k) (evA G s.get x) s.row):=fU rfl
theorem CG {t:TypeId} {x:Operand}:aS P G n K d rest m s (.range t x)=bU P G n K d rest m [] s (lD P t (evA G s.get x) s.row s.h.length):=fU rfl
theorem CJ {x:Operand}:aS P G n K d rest m s (.entry x)=bW P G n K d rest m (bZ (evA G s.get x)) s (lE (evA G s.get x) s.row):=cX rfl
def vA (x:AV) (i:Nat):Option AV:=match x with| .tup vs=>vs[i]? |_=>none
theorem s8 {x:Operand} {i:Nat}:aS P G n K d rest m s (.extract x i)=bW P G n K d rest m [] s (vA (evA G s.get x) i):=by
 refine cX ?_
 funext K'
 simp only [opR,OpC,fpA,eQ,aop,vA]
 cases evA G s.get x<;>rfl
theorem tA {b:Builtin} {args:Array Operand} {ts:Array TypeId}:aS P G n K d rest m s (.call ⟨.builtin b,args,ts⟩)=bU P G n K d rest m ((args.toList.map (evA G s.get)).flatMap bZ) s (f9 P b ts (args.toList.map (evA G s.get)) s.row s.h.length):=fU rfl
theorem ML {x:Operand} {args:Array Operand} {ts:Array TypeId} (h:bI P G n K d rest m s (args.toList.map (evA G s.get)) (evA G s.get x)):aS P G n K d rest m s (.call ⟨.value x,args,ts⟩):=by
 unfold bI at h
 split at h
 ·rename_i f first cap hx
  obtain ⟨eff,fp,h1,h2⟩:=h
  refine ⟨eff,fp,?_,h2⟩
  simp only [OpC,eQ,hx]
  exact h1
 ·rename_i r hx
  obtain ⟨eff,fp,h1,h2⟩:=h
  refine ⟨eff,fp,?_,h2⟩
  simp only [OpC,eQ,iZ,hx]
  exact h1
 ·exact h.elim
theorem EK {args:List AV} {f:FuncId} {a b:List AV}:bI P G n K d rest m s args (.fn (.func f) a b)=bC P G n K d rest m s f (a++args++b):=rfl
theorem vO {f:FuncId} {args targs:List AV} {res:AV} {fp:List Nat} (hG:∀ g cs,G g=some cs→inL aC cs=true) (h:Pure P G f targs res) (hl:LendL s.row fp args targs) (hs:fp=[]∨pJ res=true)
  (hk:aY P G n K rest (adv m fp []) (s.put d res)):bC P G n K d rest m s f args:=
 ⟨⟨res,[]⟩,fp,vT hG h hl hs,hk⟩
end
theorem get_put {s:AS} {t i:Nat} {v:AV}:(s.put (some t) v).get i=if i=t then v else s.get i:=AS.get_put s t v i
theorem D0 {s:AS} {v:AV}:s.put none v=s:=rfl
theorem get_wr {s:AS} {l:List (Nat × ARow)} {i:Nat}:(s.wr l).get i=s.get i:=rfl
theorem J3 {s:AS}:s.wr []=s:=rfl
theorem DW {t i:Nat} {v:AV} {l:List (Nat × AV)} {h:List ARow}:AS.get ⟨mkF ((t,v)::l),h⟩ i=if i=t then v else AS.get ⟨mkF l,h⟩ i:=fM t v l i
theorem HD {i:Nat} {h:List ARow}:AS.get ⟨mkF [],h⟩ i=.undef:=g7 i
theorem row_put {s:AS} {d:Option Tmp} {v:AV}:(s.put d v).row=s.row:=AS.row_put s d v
theorem row_wr {s:AS} {l:List (Nat × ARow)}:(s.wr l).row=upd s.row l:=AS.row_wr s l
theorem eE {rows:Nat→ARow} {r i:Nat} {x:ARow}:upd rows [(r,x)] i=if i=r then x else rows i:=rfl
theorem zM {rows:Nat→ARow} {r r' i:Nat} {x y:ARow}:upd rows [(r,x),(r',y)] i=if i=r' then y else if i=r then x else rows i:=rfl
theorem lX {fr:List AV} {h:List ARow} {r:Nat}:AS.row ⟨fr,h⟩ r=h.getD r .none:=rfl
theorem h_put {s:AS} {d:Option Tmp} {v:AV}:(s.put d v).h=s.h:=AS.h_put s d v
theorem S3 {s:AS} {r:Nat} {x:ARow}:(s.wr [(r,x)]).h=d7 s.h r x:=rfl
theorem OQ {s:AS} {r r':Nat} {x y:ARow}:(s.wr [(r,x),(r',y)]).h=d7 (d7 s.h r x) r' y:=rfl
theorem L6 {fr:List AV} {h:List ARow}:AS.h ⟨fr,h⟩=h:=rfl
theorem yD {v:ARow}:d7 [] 0 v=[v]:=rfl
theorem uU {a v:ARow} {l:List ARow}:d7 (a::l) 0 v=v::l:=rfl
theorem uT {a v:ARow} {l:List ARow} {n:Nat}:d7 (a::l) (n+1) v=a::d7 l n v:=rfl
theorem LI {G:Nat→Option (List AV)} {g:Nat→AV} {t:Tmp}:evA G g (.tmp t)=g t:=rfl
theorem E6 {G:Nat→Option (List AV)} {g:Nat→AV} {v:Value}:evA G g (.const v)=ofV v:=rfl
theorem HF {G:Nat→Option (List AV)} {g:Nat→AV} {f:FuncId}:evA G g (.func f)=.fn (.func f) [] []:=rfl
theorem KK {k:IntKind} {n:Int}:ofV (.int k n)=.int k n:=rfl
theorem GV {b:Bool}:ofV (.bool b)=.bool b:=rfl
theorem KI {b:ByteArray}:ofV (.string b)=.str b:=rfl
theorem KJ:ofV (.slice none 0 0)=.sl true []:=rfl
theorem xT:ofV (.map none)=.mp [] []:=rfl
theorem xO {t:Bool} {a b:AV}:K8 (.bool t) a b=some (if t=true then a else b):=rfl
theorem rI {vs:List AV} {i:Nat}:vA (.tup vs) i=vs[i]? :=rfl
theorem y4 {X Y:Prop} {b:Bool}:jC X Y (.bool b)=((b=true→X)∧(b=false→Y)):=rfl
theorem E9 {X Y:Prop}:jC X Y .anyb=(X∧Y):=rfl
theorem y0 {X Y:Prop}:jC X Y (.bool true)=X:=by simp [jC]
theorem vM {X Y:Prop}:jC X Y (.bool false)=Y:=by simp [jC]
theorem yF {g:Nat→AV}:kS [] g=True:=rfl
theorem uV {g:Nat→AV} {t:Nat} {v:AV} {l:List (Nat × AV)}:kS ((t,v)::l) g=(g t=v∧kS l g):=rfl
theorem p6 {K:AS→Prop} {Q:Exit→AS→Prop} {s:AS}:lH K Q .normal s=K s:=rfl
theorem zB {K:AS→Prop} {Q:Exit→AS→Prop} {s:AS}:lH K Q .ret s=Q .ret s:=rfl
theorem vZ {K:AS→Prop} {Q:Exit→AS→Prop} {s:AS} {i:Nat}:lH K Q (.exit i) s=Q (.exit i) s:=rfl
theorem nY {Q:Exit→AS→Prop} {s:AS} {i:Nat}:lA i Q .normal s=Q .normal s:=rfl
theorem wA {Q:Exit→AS→Prop} {s:AS} {i:Nat}:lA i Q .ret s=Q .ret s:=rfl
theorem rR {Q:Exit→AS→Prop} {s:AS} {i j:Nat}:lA i Q (.exit j) s=if j=i then Q .normal s else Q (.exit j) s:=rfl
theorem EZ {f w:List Nat}:adv none f w=none:=rfl
theorem EY {f w:List Nat} {a:Acc}:adv (some a) f w=some ((f,w)::a):=rfl
end Go.AM
set_option linter.unusedVariables false
set_option linter.unusedSimpArgs false
namespace Go.AM
theorem B3 {P:Program} {s:TypeId} {f:Nat} {t o:Nat} (h:(jB P s f).map (fun d=>(d.type,d.offset))=some (t,o)):∃ d,jB P s f=some d∧d.type=t∧d.offset=o:=by
 cases hd:jB P s f with
 |none=>rw [hd] at h;cases h
 |some d=>
  rw [hd] at h
  simp only [Option.map_some,Option.some.injEq,Prod.mk.injEq] at h
  exact ⟨d,rfl,h.1,h.2⟩
def bG (P:Program) (t:TypeId) (o:Nat) (x:AV) (rows:Nat→ARow):Option AV:=
 match bK P t with
 |some (_+1)=>match x with
  | .ptr r ver off=>(aT rows r ver).map fun _=>.ptr r ver (off+o)
  | .imm cs=>some (.imm (cs.drop o))
  |_=>none
 |_=>none
theorem wY {P:Program} {s:TypeId} {f:Nat} {t o:Nat} (h:∃ d,jB P s f=some d∧d.type=t∧d.offset=o) (x:AV) (rows:Nat→ARow):bA P s x f rows=bG P t o x rows:=by
 obtain ⟨d,h1,rfl,rfl⟩:=h
 unfold bA bG
 rw [h1]
 rfl
def LH (P:Program) (t:TypeId) (o:Nat) (x:AV):Option AV:=match x with| .agg cs=>oO P t cs o|_=>none
def oT (P:Program) (t:TypeId):Option (List (Nat × Nat)):=match P.underlying t with|some (.struct fields)=>t3 P fields|_=>none
theorem wZ {P:Program} {t:TypeId} {z:List AV} {places:List (Nat × Nat)} {parts:List (Nat × AV)} (hz:(bM P t).bind AV.toCells=some z) (hp:oT P t=some places):
  eL P t parts=(eC (fun i=>places[i]?) z parts).map .agg:=by
 unfold oT at hp
 split at hp
 ·rename_i fields hu
  unfold eL
  rw [hu,hz]
  simp only [hp]
 ·cases hp
theorem p9 {P:Program} {t e:TypeId} {n sz:Nat} {z:List AV} {parts:List (Nat × AV)} (hz:(bM P t).bind AV.toCells=some z) (hu:P.underlying t=some (.array n e)) (hs:bK P e=some sz):
  eL P t parts=(eC (fun i=>some (i*sz,sz)) z parts).map .agg:=by
 unfold eL
 rw [hu,hz]
 simp only [hs]
theorem aB {P:Program} {fn:Func} {R:AV→AS→Prop} {s:AS} {t:Tmp} (h:fn.results= #[.tmp t]) (hR:R (s.get t) s):dR P fn R .ret s:=
 ⟨s.get t,by simp [cR,eK,jE,h],hR⟩
theorem eZ {P:Program} {fn:Func} {R:AV→AS→Prop} {s:AS} {t u:Tmp} (h:fn.results= #[.tmp t,.tmp u]) (hR:R (.tup [s.get t,s.get u]) s):dR P fn R .ret s:=
 ⟨.tup [s.get t,s.get u],by simp [cR,eK,jE,h],hR⟩
theorem IM {P:Program} {fn:Func} {R:AV→AS→Prop} {s:AS} (h:fn.results= #[]) (hR:R (.tup []) s):dR P fn R .ret s:=
 ⟨.tup [],by simp [cR,eK,h],hR⟩
theorem j1 {P:Program} {fn:Func} {R:AV→AS→Prop} {s:AS} (h:fn.results= #[]) (hR:R (.tup []) s):dR P fn R .normal s:=
 ⟨.tup [],by simp [cR,eK,h],hR⟩
theorem aL {k m:Nat} (h:k<m) (hm:m≤4611686018427387904):IntKind.i64.wrap ((k:Int)+1)=((k+1:Nat):Int):=by
 rw [cB (by omega) (by omega)]
 omega
end Go.AM
set_option linter.unusedVariables false
set_option linter.unusedSimpArgs false
namespace Go.AM
theorem iF {rows rows':Nat→ARow} {r ver:Nat} (h:rows' r=rows r):aT rows' r ver=aT rows r ver:=by unfold aT;rw [h]
section
variable {P:Program} {rows rows':Nat→ARow} {nb:Nat}
theorem KU {t:TypeId} {x:AV} (h:∀ r∈bZ x,rows' r=rows r):gO P t x rows'=gO P t x rows:=by
 cases x<;>simp_all [gO,bZ,aT]
theorem AL {x:AV} (h:∀ r∈bZ x,rows' r=rows r):fS x rows'=fS x rows:=by
 cases x<;>simp_all [fS,bZ,aT]<;>(split<;>simp_all)
theorem wR {t:TypeId} {x:AV} {f:Nat} (h:∀ r∈bZ x,rows' r=rows r):bA P t x f rows'=bA P t x f rows:=by
 cases x<;>simp_all [bA,bZ,aT]
theorem I9 {t:TypeId} {x y:AV} (h:∀ r∈bZ x,rows' r=rows r):lB P t x y rows'=lB P t x y rows:=by
 cases x<;>simp_all [lB,bZ,aT]<;>(split<;>simp_all)
theorem wQ {t:TypeId} {x i:AV} (h:∀ r∈bZ x,rows' r=rows r):eS P t x i rows'=eS P t x i rows:=by
 cases x<;>simp_all [eS,bZ,aT]
theorem FQ {x:AV} (h:∀ r∈bZ x,rows' r=rows r):kG x rows'=kG x rows:=by
 cases x<;>simp_all [kG,bZ,aT]
theorem NI {op:BinOp} {t:TypeId} {x y:Operand} {a b:AV} (h:∀ r∈bZ a,rows' r=rows r):BQ P op t x y a b rows'=BQ P op t x y a b rows:=by
 unfold BQ
 rw [FQ h]
theorem IA {t:TypeId} {x:AV} {lo hi mx:Option AV} (h:∀ r∈bZ x,rows' r=rows r):lC P t x lo hi mx rows'=lC P t x lo hi mx rows:=by
 cases x<;>simp only [lC,bZ,aT,List.mem_singleton,forall_eq,List.not_mem_nil] at h ⊢<;>(try rw [h])<;>(split<;>first|rfl|(simp_all;done)|(split<;>simp_all))
theorem FR {t:TypeId} {x k:AV} {ok:Bool} (h:∀ r∈bZ x,rows' r=rows r):g8 P t x k ok rows'=g8 P t x k ok rows:=by
 cases x<;>simp_all [g8,bZ]<;>(split<;>simp_all)
theorem nT {t:TypeId} {x k v:AV} (h:∀ r∈bZ x,rows' r=rows r):dL P t x k v rows'=dL P t x k v rows:=by
 cases x<;>simp_all [dL,bZ]<;>(split<;>simp_all)
theorem IC {x:AV} (h:∀ r∈bZ x,rows' r=rows r):lE x rows'=lE x rows:=by
 cases x<;>simp_all [lE,bZ]<;>(split<;>simp_all)
theorem NH {t:TypeId} {x:AV} (h:∀ r∈bZ x,rows' r=rows r):r7 P t x rows'=r7 P t x rows:=by
 cases x<;>simp_all [r7,bZ,aT]
theorem ID {t:TypeId} {x:AV} (h:∀ r∈bZ x,rows' r=rows r):mZ P t x rows'=mZ P t x rows:=by
 cases x<;>simp_all [mZ,bZ,aT]
theorem NG {sz:Nat} {x:AV} (h:∀ r∈bZ x,rows' r=rows r):cJ sz x rows'=cJ sz x rows:=by
 cases x<;>simp_all [cJ,bZ,aT]
theorem H2 {z:AV} {eff:Eff} (h:wD z rows nb=some eff) (hr:∀ r∈eff.wr.map (·.1),rows' r=rows r):wD z rows' nb=some eff:=by
 unfold wD at h ⊢
 split at h
 ·rename_i cs hc hn
  injection h with h
  subst h
  rw [hr nb (by simp),hn,hc]
 ·cases h
theorem wP {t:TypeId} {l c:AV} {eff:Eff} (h:eR P t l c rows nb=some eff) (hr:∀ r∈eff.wr.map (·.1),rows' r=rows r):eR P t l c rows' nb=some eff:=by
 unfold eR at h ⊢
 split at h
 ·rename_i e n m h1 h2 h3 h4
  split at h
  ·rename_i sz by' z h5 h6 h7
   split at h
   ·rename_i hc
    injection h with h
    subst h
    have:=hr nb (by simp)
    rw [this,h4,h1,h2,h3]
    simp only [h5,h6,h7]
    rw [if_pos hc]
   ·cases h
  ·cases h
 ·cases h
theorem DI {u:TypeId} {s x:AV} {eff:Eff} (h:nL P u s x rows=some eff) (h1:∀ r∈bZ s,rows' r=rows r):nL P u s x rows'=some eff:=by
 unfold nL at h ⊢
 split at h
 ·split at h
  ·rename_i hc
   rw [if_pos hc]
   split at h
   ·exact h
   ·rename_i r ver off n sz f
    have hrr:rows' r=rows r:=h1 r (by simp [bZ])
    rw [iF hrr]
    exact h
   ·exact h
   ·cases h
  ·cases h
 ·cases h
theorem DJ {s:AV} {sz by' m:Nat} {new:List AV} {eff:Eff} (h:ES s rows nb sz by' m new=some eff) (h1:∀ r∈bZ s,rows' r=rows r) (hr:∀ r∈eff.wr.map (·.1),rows' r=rows r):ES s rows' nb sz by' m new=some eff:=by
 unfold ES at h ⊢
 split at h
 ·split at h
  ·rename_i hf
   rw [if_pos hf]
   split at h
   ·rename_i hm;rw [if_pos hm];exact h
   ·rename_i hm
    rw [if_neg hm]
    split at h
    ·rename_i hn
     injection h with h
     subst h
     rw [hr nb (by simp),hn]
    ·cases h
  ·cases h
 ·rename_i r ver off n sz' full
  have hrr:rows' r=rows r:=h1 r (by simp [bZ])
  rw [iF hrr]
  split at h
  ·cases h
  rename_i cs hcs
  try simp only [hcs]
  split at h
  ·rename_i hf
   rw [if_pos hf]
   split at h
   ·rename_i hfu
    rw [if_pos hfu]
    split at h
    ·rename_i hm;rw [if_pos hm];exact h
    ·rename_i hm
     rw [if_neg hm]
     split at h
     ·rename_i hn
      injection h with h
      subst h
      rw [hr nb (by simp),hn]
     ·cases h
   ·rename_i hfu
    rw [if_neg hfu]
    exact h
  ·cases h
 ·rename_i r ver off n sz'
  have hrr:rows' r=rows r:=h1 r (by simp [bZ])
  rw [iF hrr]
  exact h
 ·rename_i r
  have hrr:rows' r=rows r:=h1 r (by simp [bZ])
  rw [hrr]
  exact h
 ·cases h
theorem FS {t u:TypeId} {s x:AV} {eff:Eff} (h:dN P t u s x rows nb=some eff) (h1:∀ r∈bZ s,rows' r=rows r) (h2:∀ r∈bZ x,rows' r=rows r) (hr:∀ r∈eff.wr.map (·.1),rows' r=rows r):dN P t u s x rows' nb=some eff:=by
 have key:rows' nb=rows nb∨rows nb≠.none∨nb ∉ eff.wr.map (·.1):=by
  by_cases hm:nb∈eff.wr.map (·.1)
  ·exact .inl (hr nb hm)
  ·exact .inr (.inr hm)
 unfold dN at h ⊢
 split at h
 ·cases h
 rename_i e he
 try simp only [he]
 split at h
 ·rename_i sz by' z k1 k2 k3
  rw [NG h2]
  try simp only [k1,k2,k3]
  split at h
  ·rename_i hs
   try simp only [hs]
   unfold QN at h ⊢
   split at h
   ·split at h
    ·rename_i hn
     rw [if_pos hn]
     exact DI h h1
    ·rename_i hn
     rw [if_neg hn]
     simp only [Option.ite_none_right_eq_some] at h
     rw [if_pos h.1]
     exact DJ h.2 h1 hr
   ·cases h
  rename_i m new hs
  try simp only [hs]
  split at h
  ·rename_i hc
   rw [if_pos hc]
   exact DJ h h1 hr
  ·cases h
 ·cases h
theorem IB {t:TypeId} {x:AV} {eff:Eff} (h:lD P t x rows nb=some eff) (hr:∀ r∈eff.wr.map (·.1),rows' r=rows r):lD P t x rows' nb=some eff:=by
 unfold lD at h ⊢
 split at h
 ·rename_i h1 h2
  injection h with h
  subst h
  rw [hr nb (by simp),h2,h1]
 ·cases h
theorem DH {b:Builtin} {ts:Array TypeId} {args:List AV} {eff:Eff} (h:f9 P b ts args rows nb=some eff) (hf:∀ r∈args.flatMap bZ,rows' r=rows r) (hr:∀ r∈eff.wr.map (·.1),rows' r=rows r):f9 P b ts args rows' nb=some eff:=by
 unfold f9 at h ⊢
 split at h
 ·rename_i s x
  split at h
  ·rename_i t u ht hu
   try simp only [ht,hu]
   split at h
   ·rename_i hs
    rw [if_pos hs]
    exact FS h (fun r hm=>hf r (by simp [hm])) (fun r hm=>hf r (by simp [hm])) hr
   ·cases h
  ·cases h
 ·rename_i x
  split at h
  ·rename_i t ht
   try simp only [ht]
   rw [NH fun r hm=>hf r (by simp [hm])]
   exact h
  ·cases h
 ·rename_i x
  split at h
  ·rename_i t ht
   try simp only [ht]
   rw [ID fun r hm=>hf r (by simp [hm])]
   exact h
  ·cases h
 ·exact h
 ·exact h
 ·cases h
theorem qW {o:Op} {ev:Operand→AV} {eff:Eff} (h:aop P o ev rows nb=some eff) (hf:∀ r∈fpA o ev,rows' r=rows r) (hr:∀ r∈eff.wr.map (·.1),rows' r=rows r):aop P o ev rows' nb=some eff:=by
 unfold aop at h ⊢
 split at h<;>simp only [fpA] at hf
 case h_4=>
  split at h
  ·rename_i z hz;try simp only [hz]
   exact H2 h hr
  ·cases h
 case h_5=>exact H2 h hr
 case h_8=>rw [KU hf];exact h
 case h_9=>rw [I9 hf];exact h
 case h_10=>rw [AL hf];exact h
 case h_11=>rw [NI hf];exact h
 case h_15=>
  split at h
  ·rename_i hn
   injection h with h
   subst h
   rw [hr nb (by simp),hn]
  ·cases h
 case h_16=>exact wP h hr
 case h_17=>rw [IA hf];exact h
 case h_18=>rw [wR hf];exact h
 case h_20=>rw [wQ hf];exact h
 case h_22=>rw [FR hf];exact h
 case h_23=>rw [nT hf];exact h
 case h_24=>rw [nT hf];exact h
 case h_25=>exact IB h hr
 case h_26=>rw [IC hf];exact h
 case h_28=>
  rename_i c
  split at h
  ·rename_i b hb
   simp only [hb] at hf
   exact DH h hf hr
  ·cases h
 all_goals exact h
end
end Go.AM
set_option linter.unusedVariables false
set_option linter.unusedSimpArgs false
namespace Go.AM
theorem zF {P:Program} {o:Op} {ev ev':Operand→AV} (h:∀ x∈o.operands,ev' x=ev x) (rows:Nat→ARow) (nb:Nat):aop P o ev' rows nb=aop P o ev rows nb:=by
 have pairs:∀ ps:Array (Nat × Operand),(∀ x∈(ps.toList.map (·.2)).toArray,ev' x=ev x)→(ps.toList.map fun p=>(p.1,ev' p.2))=(ps.toList.map fun p=>(p.1,ev p.2)):=fun ps hp=>
  List.map_congr_left fun p hm=>by
   rw [hp p.2 (by simp only [List.mem_toArray,List.mem_map];exact ⟨p,hm,rfl⟩)]
 cases o<;>simp only [Op.operands] at h<;>simp only [aop]
 case build t ps=>rw [pairs ps h]
 case buildSlice t len ps=>rw [pairs ps h]
 case makeFunc f a b=>
  rw [List.map_congr_left (l:=a.toList) fun x hx=>h x (by simp at hx ⊢;exact .inl hx),List.map_congr_left (l:=b.toList) fun x hx=>h x (by simp at hx ⊢;exact .inr hx)]
 case makeMap t r=>cases r<;>rfl
 case slice t x lo hi mx=>
  cases lo<;>cases hi<;>cases mx<;>simp_all
 case call c=>
  cases hc:c.callee<;>simp only [Call.operands,hc] at h<;>try rfl
  rw [List.map_congr_left (l:=c.args.toList) fun x hx=>h x (by simp at hx ⊢;exact hx)]
 all_goals (first|rfl|(simp_all;done))
theorem BC {o:Op} {ev ev':Operand→AV} (h:∀ x∈o.operands,ev' x=ev x):eQ o ev'=eQ o ev:=by
 cases o<;>simp only [Op.operands] at h<;>simp only [eQ]
 case call c=>
  cases hc:c.callee<;>simp only [Call.operands,hc] at h<;>try rfl
  rename_i x
  have e1:ev' x=ev x:=h x (by simp)
  have e2:c.args.toList.map ev'=c.args.toList.map ev:=List.map_congr_left fun x hx=>h x (by simp at hx ⊢;exact .inr hx)
  simp only [e1,e2]
theorem BV {o:Op} {ev ev':Operand→AV} (h:∀ x∈o.operands,ev' x=ev x):iZ o ev'=iZ o ev:=by
 cases o<;>simp only [Op.operands] at h<;>simp only [iZ]
 case call c=>
  cases hc:c.callee<;>simp only [Call.operands,hc] at h<;>try rfl
  rename_i x
  have e1:ev' x=ev x:=h x (by simp)
  have e2:c.args.toList.map ev'=c.args.toList.map ev:=List.map_congr_left fun x hx=>h x (by simp at hx ⊢;exact .inr hx)
  simp only [e1,e2]
theorem yS {o:Op} {ev ev':Operand→AV} (h:∀ x∈o.operands,ev' x=ev x):fpA o ev'=fpA o ev:=by
 cases o<;>simp only [Op.operands] at h<;>simp only [fpA]
 case call c=>
  cases hc:c.callee<;>simp only [Call.operands,hc] at h<;>try rfl
  rw [List.map_congr_left (l:=c.args.toList) fun x hx=>h x (by simp at hx ⊢;exact hx)]
 all_goals (first|rfl|(simp_all;done))
theorem yW {G:Nat→Option (List AV)} {g g':Nat→AV} {x:Operand} (h:∀ t,x=.tmp t→g' t=g t):evA G g' x=evA G g x:=by
 cases x<;>first|rfl|exact h _ rfl
theorem xY {ops:Array Oper} {o:Oper} {t:Tmp} (h:Operand.tmp t∈o.op.operands):t∈o.looksAt ops:=
 List.mem_append_left _ (List.mem_filterMap.2 ⟨.tmp t,by simpa using h,rfl⟩)
theorem OpC.moved {P:Program} {G:Nat→Option (List AV)} {ops:Array Oper} {o:Oper} {g g':Nat→AV} {rows rows':Nat→ARow} {nb:Nat} {fp:List Nat} {eff:Eff} (h:OpC P G o.op (evA G g) rows nb fp eff)
  (hg:∀ t∈o.looksAt ops,g' t=g t) (hr:∀ r,r∈fp∨r∈eff.wr.map (·.1)→rows' r=rows r):OpC P G o.op (evA G g') rows' nb fp eff:=by
 have he:∀ x∈o.op.operands,evA G g' x=evA G g x:=fun x hx=>yW fun t ht=>hg t (xY (ht ▸ hx))
 unfold OpC at h ⊢
 rw [BC he]
 split at h
 ·rename_i f args hc
  obtain ⟨h1,h2,h3⟩:=h
  exact ⟨h1,h2,fun E us i hE=>h3 E us i fun r hm=>by rw [hE r hm];exact hr r (.inl hm)⟩
 ·rw [BV he]
  split at h
  ·rename_i q args hc
   obtain ⟨h0,h1,h2,h3⟩:=h
   exact ⟨h0,by rw [hr q (.inl h0)];exact h1,h2,fun E us i hE=>h3 E us i fun r hm=>by rw [hE r hm];exact hr r (.inl hm)⟩
  ·obtain ⟨h1,rfl⟩:=h
   rw [zF he,yS he]
   exact ⟨qW h1 (fun r hm=>hr r (.inl hm)) (fun r hm=>hr r (.inr hm)),rfl⟩
theorem qZ {ops:Array Oper} {o:Oper} {s s':AS} (hg:∀ t∈o.looksAt ops,s'.get t=s.get t):iB ops o s'=iB ops o s:=by
 unfold iB
 cases hgd:o.guard with
 |none=>rfl
 |some p=>
  obtain ⟨j,w⟩:=p
  simp only
  cases hd:(ops[j]?).bind (·.dst) with
  |none=>rfl
  |some d=>
   simp only
   rw [hg d (by simp [Oper.looksAt,hgd,hd])]
def sAt (D:Nat→Option Tmp) (e:Nat→Eff) (s:AS):Nat→AS
 |0=>s
 |i+1=>(sAt D e s i).apply (D i) (e i)
theorem jP (D:Nat→Option Tmp) (e:Nat→Eff) (s:AS):∀ i,sAt D e s (i+1)=sAt (fun i=>D (i+1)) (fun i=>e (i+1)) (s.apply (D 0) (e 0)) i
 |0=>rfl
 |i+1=>by
  show (sAt D e s (i+1)).apply (D (i+1)) (e (i+1))=_
  rw [jP D e s i]
  rfl
def m5 (P:Program) (G:Nat→Option (List AV)) (ops:Array Oper) (o:Oper) (s:AS) (e:Eff) (F:List Nat):Prop:=
 (iB ops o s=some true∧OpC P G o.op (evA G s.get) s.row s.h.length F e)∨(iB ops o s=some false∧e=⟨.tup [],[]⟩∧F=[])
def lJ (F:Nat→List Nat) (e:Nat→Eff):Nat→Acc→Acc
 |0,a=>a
 |i+1,a=>(F i,(e i).wr.map (·.1))::lJ F e i a
theorem oP (F:Nat→List Nat) (e:Nat→Eff) (a:Acc):∀ i,lJ F e (i+1) a=lJ (fun i=>F (i+1)) (fun i=>e (i+1)) i ((F 0,(e 0).wr.map (·.1))::a)
 |0=>rfl
 |i+1=>by
  show (F (i+1),_)::lJ F e (i+1) a=_
  rw [oP F e a i]
  rfl
theorem sV {P:Program} {G:Nat→Option (List AV)} {n:Nat} {ops:Array Oper} {K:Option Acc→AS→Prop}:∀ (l:List Oper) (s:AS) (acc:Acc),
  aY P G n K (l.map fun o=>(o.dst,o.op,o.guard.map fun p=>((ops[p.1]?).bind (·.dst),p.2))) (some acc) s→
  ∃ (e:Nat→Eff) (F:Nat→List Nat),(∀ i o,l[i]? =some o→gM n o.dst∧m5 P G ops o (sAt (fun i=>(l[i]?).bind (·.dst)) e s i) (e i) (F i))∧K (some (lJ F e l.length acc)) (sAt (fun i=>(l[i]?).bind (·.dst)) e s l.length)
 | [],s,acc,h=>⟨fun _=>⟨.tup [],[]⟩,fun _=>[],by simp,h⟩
 | o :: rest, s, acc, h => by
  simp only [List.map_cons,aY] at h
  obtain ⟨hd,h⟩:=h
  have fin:∀ (e0:Eff) (F0:List Nat),m5 P G ops o s e0 F0→
    aY P G n K (rest.map fun o=>(o.dst,o.op,o.guard.map fun p=>((ops[p.1]?).bind (·.dst),p.2))) (some ((F0,e0.wr.map (·.1))::acc)) (s.apply o.dst e0)→
    ∃ (e:Nat→Eff) (F:Nat→List Nat),(∀ i o',(o::rest)[i]? =some o'→gM n o'.dst∧m5 P G ops o' (sAt (fun i=>((o::rest)[i]?).bind (·.dst)) e s i) (e i) (F i))∧
     K (some (lJ F e (o::rest).length acc)) (sAt (fun i=>((o::rest)[i]?).bind (·.dst)) e s (o::rest).length):=by
   intro e0 F0 hst hr
   obtain ⟨e,F,h1,h2⟩:=sV rest _ _ hr
   refine ⟨fun|0=>e0|i+1=>e i,fun|0=>F0|i+1=>F i,fun i o' ho=>?_,?_⟩
   ·cases i with
    |zero=>
     simp at ho
     subst ho
     exact ⟨hd,hst⟩
    |succ i=>
     have:=h1 i o' (by simpa using ho)
     rw [jP]
     exact this
   ·rw [List.length_cons,jP,oP]
    exact h2
  rw [← lK] at h
  split at h
  ·rename_i hw
   unfold opR at h
   split at h
   ·obtain ⟨h0,_⟩:=h
    cases h0
   ·obtain ⟨eff,fp,h1,h2⟩:=h
    exact fin eff fp (.inl ⟨hw,h1⟩) h2
  ·rename_i hw
   exact fin ⟨.tup [],[]⟩ [] (.inr ⟨hw,rfl,rfl⟩) h
  ·exact h.elim
def gl (D:Nat→Option Tmp) (e:Nat→Eff) (s:AS) (L:Nat→Bool):Nat→Nat→AV
 |0,t=>s.get t
 |m+1,t=>if L m=true∧D m=some t then (e m).val else gl D e s L m t
def rl (e:Nat→Eff) (s:AS) (L:Nat→Bool):Nat→Nat→ARow
 |0=>s.row
 |m+1=>if L m=true then upd (rl e s L m) (e m).wr else rl e s L m
def dP (e:Nat→Eff) (i r:Nat):Prop:=r∈(e i).wr.map (·.1)
section
variable {D:Nat→Option Tmp} {e:Nat→Eff} {s:AS}
theorem FX:∀ i t,(sAt D e s i).get t=gl D e s (fun _=>true) i t
 |0,_=>rfl
 |i+1,t=>by
  simp only [sAt,gl,AS.apply]
  cases hd:D i with
  |none=>simp only [AS.get_put_none,AS.get_wr];simpa using FX i t
  |some d=>
   rw [AS.get_put]
   simp only [Option.some.injEq,true_and,AS.get_wr]
   by_cases h:t=d
   ·subst h;simp
   ·rw [if_neg h,if_neg (fun e=>h e.symm)];exact FX i t
theorem JU:∀ i,(sAt D e s i).row=rl e s (fun _=>true) i
 |0=>rfl
 |i+1=>by
  simp only [sAt,rl,AS.apply,if_true]
  rw [AS.row_put,AS.row_wr,JU i]
theorem uZ {L L':Nat→Bool}:∀ (m t:Nat),(∀ j,j<m→D j=some t→L j=L' j)→gl D e s L m t=gl D e s L' m t
 |0,_,_=>rfl
 |m+1,t,h=>by
  simp only [gl]
  rw [uZ m t fun j hj=>h j (by omega)]
  by_cases hd:D m=some t
  ·rw [h m (by omega) hd]
  ·simp [hd]
theorem AZ {L:Nat→Bool}:∀ (m k t:Nat),(∀ j,m≤j→j<m+k→D j=some t→L j=false)→gl D e s L (m+k) t=gl D e s L m t
 |m,0,t,_=>rfl
 |m,k+1,t,h=>by
  show gl D e s L (m+k+1) t=_
  simp only [gl]
  rw [if_neg,AZ m k t fun j h1 h2=>h j h1 (by omega)]
  rintro ⟨h1,h2⟩
  rw [h (m+k) (by omega) (by omega) h2] at h1
  cases h1
theorem eV {r:Nat} {rows:Nat→ARow} {l:List (Nat × ARow)} (h:r ∉ l.map (·.1)):upd rows l r=rows r:=
 jM l rows r fun p hp e=>h (List.mem_map.2 ⟨p,hp,e⟩)
theorem o9 {L L':Nat→Bool}:∀ (m r:Nat),(∀ j,j<m→dP e j r→L j=L' j)→rl e s L m r=rl e s L' m r
 |0,_,_=>rfl
 |m+1,r,h=>by
  have ih:=o9 m r fun j hj=>h j (by omega)
  simp only [rl]
  by_cases hw:dP e m r
  ·rw [h m (by omega) hw]
   split
   ·exact dU _ _ _ r ih
   ·exact ih
  ·have a:∀ rows,upd rows (e m).wr r=rows r:=fun rows=>eV hw
   split<;>split<;>simp only [a,ih]
theorem sE {L:Nat→Bool}:∀ (m k r:Nat),(∀ j,m≤j→j<m+k→dP e j r→L j=false)→rl e s L (m+k) r=rl e s L m r
 |m,0,r,_=>rfl
 |m,k+1,r,h=>by
  show rl e s L (m+k+1) r=_
  simp only [rl]
  have ih:=sE m k r fun j h1 h2=>h j h1 (by omega)
  by_cases hw:dP e (m+k) r
  ·rw [h (m+k) (by omega) (by omega) hw]
   simpa using ih
  ·split
   ·rw [eV hw];exact ih
   ·exact ih
theorem yM {L:Nat→Bool} {N i t:Nat} (hi:i≤N) (h1:∀ j,j<i→D j=some t→L j=true) (h2:∀ j,i≤j→j<N→D j=some t→L j=false):gl D e s L N t=(sAt D e s i).get t:=by
 rw [FX]
 obtain ⟨k,rfl⟩:=Nat.exists_eq_add_of_le hi
 rw [AZ i k t h2]
 exact uZ i t fun j hj hd=>by rw [h1 j hj hd]
theorem tQ {L:Nat→Bool} {N i r:Nat} (hi:i≤N) (h1:∀ j,j<i→dP e j r→L j=true) (h2:∀ j,i≤j→j<N→dP e j r→L j=false):rl e s L N r=(sAt D e s i).row r:=by
 rw [JU]
 obtain ⟨k,rfl⟩:=Nat.exists_eq_add_of_le hi
 rw [sE i k r h2]
 exact o9 i r fun j hj hd=>by rw [h1 j hj hd]
def eO (L:Nat→Bool) (i:Nat):Nat→Bool:=fun j=>if j=i then true else L j
theorem HC {L:Nat→Bool} {N i t:Nat} (hi:i<N) (h2:∀ j,i<j→j<N→D j=some t→D i=some t→L j=false):gl D e s (eO L i) N t=if D i=some t then (e i).val else gl D e s L N t:=by
 by_cases hd:D i=some t
 ·rw [if_pos hd]
  obtain ⟨k,rfl⟩:=Nat.exists_eq_add_of_le (show i+1≤N from hi)
  rw [AZ (i+1) k t fun j a b c=>by
   have:j≠i:=by omega
   simp only [eO,if_neg this]
   exact h2 j (by omega) b c hd]
  simp [gl,eO,hd]
 ·rw [if_neg hd]
  exact uZ N t fun j hj hdj=>by
   have:j≠i:=fun e=>hd (e ▸ hdj)
   simp [eO,this]
theorem zY {L:Nat→Bool} {N i r:Nat} (hi:i<N) (hL:L i=false) (h2:∀ j,i<j→j<N→dP e j r→dP e i r→L j=false):rl e s (eO L i) N r=upd (rl e s L N) (e i).wr r:=by
 by_cases hw:dP e i r
 ·obtain ⟨k,rfl⟩:=Nat.exists_eq_add_of_le (show i+1≤N from hi)
  have a:∀ j,i+1≤j→j<i+1+k→dP e j r→L j=false:=fun j a b c=>h2 j (by omega) b c hw
  have e1:rl e s (eO L i) (i+1+k) r=rl e s (eO L i) (i+1) r:=sE (i+1) k r fun j h1 h3 h4=>by
   have:j≠i:=by omega
   simp only [eO,if_neg this]
   exact a j h1 h3 h4
  have e2:rl e s L (i+1+k) r=rl e s L (i+1) r:=sE (i+1) k r a
  have e3:rl e s L (i+1) r=rl e s L i r:=by simp [rl,hL]
  rw [e1]
  simp only [rl,eO,if_true]
  refine dU _ _ _ r ?_
  rw [e2,e3]
  exact o9 i r fun j hj _=>by
   have:j≠i:=by omega
   simp [eO,this]
 ·rw [eV hw]
  exact o9 N r fun j hj hdj=>by
   have:j≠i:=fun e=>hw (e ▸ hdj)
   simp [eO,this]
end
end Go.AM
set_option linter.unusedVariables false
set_option linter.unusedSimpArgs false
namespace Go.AM
def F7 (ops:Array Oper) (L:Nat→Bool):Prop:=∀ (j:Nat) (o:Oper),ops[j]? =some o→L j=true→∀ ed∈o.after,Region.binds .any ed=true→L ed.on=true
def eT (ops:Array Oper) (i j:Nat):Prop:=∀ L,F7 ops L→L j=true→L i=true
theorem Sim.congr [Rnd] {G:Nat→Option (List AV)} {n:Nat} {s s':AS} {E:En} {a:Act} (h:Sim G n s E a) (hg:s'.get=s.get) (hr:s'.row=s.row):Sim G n s' E a:=
 ⟨h.inv,by rw [h.rows,hr],h.sz,fun t=>by rw [hg];exact h.tm t,h.df⟩
def pP (N:Nat) (L:Nat→Bool):Nat:=(List.range N).countP fun i=> !L i
theorem kU {N:Nat} {L:Nat→Bool} {i:Nat} (hi:i<N) (hL:L i=false):pP N (eO L i)<pP N L:=by
 unfold pP
 have h1:∀ l:List Nat,(l.countP fun j=> !eO L i j)≤l.countP fun j=> !L j:=fun l=>by
  apply List.countP_mono_left
  intro j _ hj
  unfold eO at hj
  split at hj
  ·cases hj
  ·exact hj
 have h2:∀ l:List Nat,i∈l→(l.countP fun j=> !eO L i j)<l.countP fun j=> !L j:=by
  intro l
  induction l with
  |nil=>intro h;cases h
  |cons x l ih=>
   intro h
   simp only [List.countP_cons]
   by_cases hx:x=i
   ·subst hx
    have:=h1 l
    have e1:eO L x x=true:=by simp [eO]
    simp only [e1,hL,Bool.not_true,Bool.false_eq_true,if_false,Bool.not_false,if_true]
    omega
   ·have:=ih (by simpa [Ne.symm hx] using h)
    have e:eO L i x=L x:=by simp [eO,hx]
    rw [e]
    omega
 exact h2 _ (List.mem_range.2 hi)
section
variable {P:Program} {G:Nat→Option (List AV)} {n:Nat} {ops:Array Oper} {Q':Exit→Act→World→Prop}
theorem QR [Rnd] {s:AS} {E0:En} {e:Nat→Eff} {F:Nat→List Nat} {D:Nat→Option Tmp} (hD:∀ i o,ops[i]? =some o→D i=o.dst) (hDn:∀ i,ops[i]? =none→D i=none)
  (hst:∀ i o,ops[i]? =some o→gM n o.dst∧m5 P G ops o (sAt D e s i) (e i) (F i))
  (hA:∀ (j:Nat) (o:Oper),ops[j]? =some o→∀ ed∈o.after,Region.binds .any ed=true→ed.on<j)
  (hB:∀ (i j:Nat) (oi oj:Oper),i<j→ops[i]? =some oi→ops[j]? =some oj→oi.apart ops oj=true∨eT ops i j)
  (hC:∀ (i j r:Nat),i<j→j<ops.size→(dP e i r∧(r∈F j∨dP e j r))∨(dP e j r∧(r∈F i∨dP e i r))→eT ops i j)
  (hk:∀ s' E a,s'.get=(sAt D e s ops.size).get→s'.row=(sAt D e s ops.size).row→Sim G n s' E a→Ext E0 E→Q' .normal a E.w):
  ∀ (fuel:Nat) (listed:Array Bool) (s':AS) (E:En) (a:Act),pP ops.size (fun j=>listed.getD j false)≤fuel→listed.size=ops.size→F7 ops (fun j=>listed.getD j false)→
   (∀ t,s'.get t=gl D e s (fun j=>listed.getD j false) ops.size t)→(∀ r,s'.row r=rl e s (fun j=>listed.getD j false) ops.size r)→Sim G n s' E a→Ext E0 E→
   wpAnyIn wL 0 P .any ops Q' fuel listed a E.w:=by
 -- all are listed when none is ready
 have hfull : ∀ listed : Array Bool, listed.size = ops.size → Region.ready .any ops listed = [] → ∀ j, j < ops.size → listed.getD j false = true := by
  intro listed hsz hr j
  induction j using Nat.strongRecOn with
  |ind j ih=>
   intro hj
   cases hl:listed.getD j false with
   |true=>rfl
   |false=>
    exfalso
    have:j∈Region.ready .any ops listed:=by
     rw [mem_ready]
     refine ⟨?_,ops[j],Array.getElem?_eq_getElem hj,fun ed he hb=>ih ed.on (hA j _ (Array.getElem?_eq_getElem hj) ed he hb) ?_⟩
     ·have:j<listed.size:=by omega
      simp [this] at hl ⊢
      exact hl
     ·have:=hA j _ (Array.getElem?_eq_getElem hj) ed he hb
      omega
    rw [hr] at this
    cases this
 have hend:∀ (listed:Array Bool) (s':AS) (E:En) (a:Act),listed.size=ops.size→Region.ready .any ops listed=[]→(∀ t,s'.get t=gl D e s (fun j=>listed.getD j false) ops.size t)→
   (∀ r,s'.row r=rl e s (fun j=>listed.getD j false) ops.size r)→Sim G n s' E a→Ext E0 E→Q' .normal a E.w:=by
  intro listed s' E a hsz hr hg hrr i x
  have hall:=hfull listed hsz hr
  refine hk s' E a (funext fun t=>?_) (funext fun r=>?_) i x
  ·rw [hg,yM (Nat.le_refl _) (fun j hj _=>hall j hj) (fun j h1 h2=>by omega)]
  ·rw [hrr,tQ (Nat.le_refl _) (fun j hj _=>hall j hj) (fun j h1 h2=>by omega)]
 intro fuel
 induction fuel with
 |zero=>
  intro listed s' E a hf hsz hdc hg hrr i x
  have hr:Region.ready .any ops listed=[]:=by
   refine List.eq_nil_iff_forall_not_mem.2 fun j hj=>?_
   obtain ⟨h0,o,ho,_⟩:=mem_ready.1 hj
   have hlt:=(Array.getElem?_eq_some_iff.1 ho).1
   have hl:listed.getD j false=false:=by
    have:j<listed.size:=by omega
    simp [this] at h0 ⊢
    exact h0
   have:=kU (L:=fun j=>listed.getD j false) hlt hl
   omega
  exact ⟨hr,hend listed s' E a hsz hr hg hrr i x⟩
 |succ fuel ih=>
  intro listed s' E a hf hsz hdc hg hrr i x
  refine ⟨fun hr=>hend listed s' E a hsz hr hg hrr i x,fun k hk'=>?_⟩
  obtain ⟨h0,o,ho,hall⟩:=mem_ready.1 hk'
  have hlt:=(Array.getElem?_eq_some_iff.1 ho).1
  generalize hLd:(fun j=>listed.getD j false)=L at hf hdc hg hrr
  have hLk:L k=false:=by
   rw [← hLd]
   have:k<listed.size:=by omega
   simp [this] at h0 ⊢
   exact h0
  have hpre:∀ ed∈o.after,Region.binds .any ed=true→L ed.on=true:=fun ed he hb=>by rw [← hLd];exact hall ed he hb
  have hpl:F7 ops (eO L k):=by
   intro j o' ho' hj ed he hb
   unfold eO at hj ⊢
   split
   ·rfl
   ·split at hj
    ·rename_i e
     subst e
     rw [ho] at ho'
     injection ho' with ho'
     subst ho'
     exact hpre ed he hb
    ·exact hdc j o' ho' hj ed he hb
  have hbef:∀ i,eT ops i k→i≠k→L i=true:=fun i hb hne=>by
   have:=hb _ hpl (by simp [eO])
   simpa [eO,hne] using this
  have haft:∀ j,eT ops k j→L j=false:=fun j hb=>by
   cases hj:L j with
   |false=>rfl
   |true=>
    have:=hb _ hdc hj
    rw [hLk] at this
    cases this
  have hnew:(fun j=>(listed.setIfInBounds k true).getD j false)=eO L k:=by
   funext j
   rw [← hLd]
   unfold eO
   split
   ·rename_i e
    subst e
    have:j<listed.size:=by omega
    simp [this]
   ·rename_i hne
    exact getD_set_ne false (Ne.symm hne)
  -- slots
  have hopj:∀ j t,D j=some t→∃ oj,ops[j]? =some oj∧oj.dst=some t:=fun j t hd=>by
   cases hoj:ops[j]? with
   |none=>rw [hDn j hoj] at hd;cases hd
   |some oj=>exact ⟨oj,rfl,by rw [← hD j oj hoj];exact hd⟩
  have hsee:∀ t∈o.looksAt ops,s'.get t=(sAt D e s k).get t:=by
   intro t ht
   rw [hg]
   refine yM (Nat.le_of_lt hlt) (fun j hj hd=>?_) (fun j h1 h2 hd=>?_)
   ·obtain ⟨oj,hoj,hdj⟩:=hopj j t hd
    rcases hB j k oj o hj hoj ho with h|h
    ·exact absurd ht ((Oper.apart_spec h).1 t hdj)
    ·exact hbef j h (by omega)
   ·by_cases hjk:j=k
    ·subst hjk;exact hLk
    ·obtain ⟨oj,hoj,hdj⟩:=hopj j t hd
     rcases hB k j o oj (by omega) ho hoj with h|h
     ·exact absurd ht ((Oper.apart_spec h).2.2 t hdj)
     ·exact haft j h
  have hrow:∀ r,r∈F k∨r∈(e k).wr.map (·.1)→s'.row r=(sAt D e s k).row r:=by
   intro r hr
   rw [hrr]
   refine tQ (Nat.le_of_lt hlt) (fun j hj hd=>?_) (fun j h1 h2 hd=>?_)
   ·exact hbef j (hC j k r hj hlt (.inl ⟨hd,hr⟩)) (by omega)
   ·by_cases hjk:j=k
    ·subst hjk;exact hLk
    ·exact haft j (hC k j r (by omega) h2 (.inr ⟨hd,hr⟩))
  have hgl:∀ t,(s'.apply o.dst (e k)).get t=gl D e s (eO L k) ops.size t:=by
   intro t
   rw [HC hlt fun j h1 h2 hdj hdk=>by
    obtain ⟨oj,hoj,hj⟩:=hopj j t hdj
    rcases hB k j o oj h1 ho hoj with h|h
    ·exact absurd hj ((Oper.apart_spec h).2.1 t (by rw [← hD k o ho];exact hdk))
    ·exact haft j h]
   rw [hD k o ho,← hg t]
   simp only [AS.apply]
   cases hd:o.dst with
   |none=>simp [AS.get_put_none,AS.get_wr]
   |some d=>
    rw [AS.get_put]
    simp only [Option.some.injEq,AS.get_wr]
    by_cases h:t=d
    ·subst h;simp
    ·rw [if_neg h,if_neg (fun e=>h e.symm)]
  have hrl:∀ r,(s'.apply o.dst (e k)).row r=rl e s (eO L k) ops.size r:=by
   intro r
   rw [zY hlt hLk fun j h1 h2 hj hk2=>haft j (hC k j r h1 h2 (.inl ⟨hk2,.inr hj⟩))]
   simp only [AS.apply]
   rw [AS.row_put,AS.row_wr]
   exact dU _ _ _ r (hrr r)
  obtain ⟨hdst,hstep⟩:=hst k o ho
  have hcount:pP ops.size (eO L k)≤fuel:=by
   have:=kU (L:=L) hlt hLk
   omega
  have next:∀ E' a',Sim G n (s'.apply o.dst (e k)) E' a'→Ext E E'→wpAnyIn wL 0 P .any ops Q' fuel (listed.setIfInBounds k true) a' E'.w:=by
   intro E' a' i' x'
   refine ih _ (s'.apply o.dst (e k)) E' a' (by rw [hnew];exact hcount) (by simpa using hsz) (by rw [hnew];exact hpl) (by rw [hnew];exact hgl) (by rw [hnew];exact hrl) i' (x.trans x')
  unfold wpOpIn
  rw [ho]
  simp only
  have hwant:iB ops o s'=iB ops o (sAt D e s k):=qZ hsee
  rcases hstep with ⟨hw,hop⟩|⟨hw,he,hF⟩
  ·rw [← hwant] at hw
   rw [if_pos (jL i hw)]
   have hop':=(hop.moved (ops:=ops) (g':=s'.get) (rows':=s'.row) hsee hrow).astep
   rw [← i.rows] at hop'
   exact (zL i.inv i.eval hop' fun E' v x1 i1 e1 hv=>next E' _ (i.step hdst x1 i1 e1 hv) x1)
  ·rw [← hwant] at hw
   rw [if_neg (by rw [jL i hw];simp)]
   refine ⟨fun _ _=>trivial,next E _ ?_ (Ext.refl E)⟩
   rw [he]
   exact i.skip hdst
def AH (ms:List Nat) (o:Oper):Nat:=o.after.toList.foldl (fun acc ed=>if Region.binds .any ed=true then Nat.lor (Nat.lor acc (Nat.shiftLeft 1 ed.on)) (ms.getD ed.on 0) else acc) 0
def nF:List Oper→List Nat→List Nat
 | [],ms=>ms
 |o::l,ms=>nF l (ms++[AH ms o])
def mD (ops:Array Oper):List Nat:=nF ops.toList []
def BT (ops:Array Oper) (ms:List Nat):Prop:=∀ j,j<ms.length→∀ i,(ms.getD j 0).testBit i=true→eT ops i j
theorem I7 {ms:List Nat} {o:Oper} (hm:BT ops ms) (ho:ops[ms.length]? =some o) (hlt:∀ ed∈o.after,Region.binds .any ed=true→ed.on<ms.length) {i:Nat} (h:(AH ms o).testBit i=true):eT ops i ms.length:=by
 have gen:∀ (l:List Edge) (acc:Nat),(∀ ed∈l,ed∈o.after)→(acc.testBit i=true→eT ops i ms.length)→
   (l.foldl (fun acc ed=>if Region.binds .any ed=true then Nat.lor (Nat.lor acc (Nat.shiftLeft 1 ed.on)) (ms.getD ed.on 0) else acc) acc).testBit i=true→eT ops i ms.length:=by
  intro l
  induction l with
  |nil=>intro acc _ h1 h2;exact h1 h2
  |cons ed l ih=>
   intro acc hl h1 h2
   rw [List.foldl_cons] at h2
   refine ih _ (fun x hx=>hl x (by simp [hx])) ?_ h2
   intro h3
   split at h3
   ·rename_i hb
    have hmem:=hl ed (by simp)
    have hon:eT ops ed.on ms.length:=fun L hd hL=>hd _ o ho hL ed hmem hb
    have e3:((acc ||| 1 <<< ed.on) ||| ms.getD ed.on 0).testBit i=true:=h3
    rw [Nat.testBit_or,Nat.testBit_or] at e3
    simp only [Bool.or_eq_true] at e3
    rcases e3 with (h4|h4)|h4
    ·exact h1 h4
    ·rw [Nat.one_shiftLeft,Nat.testBit_two_pow] at h4
     have:ed.on=i:=by simpa using h4
     subst this
     exact hon
    ·exact fun L hd hL=>hm ed.on (hlt ed hmem hb) i h4 L hd (hon L hd hL)
   ·exact h1 h3
 exact gen o.after.toList 0 (fun ed h=>by simpa using h) (by simp) h
theorem oG (hA:∀ (j:Nat) (o:Oper),ops[j]? =some o→∀ ed∈o.after,Region.binds .any ed=true→ed.on<j):∀ (l:List Oper) (ms:List Nat),BT ops ms→(∀ i o,l[i]? =some o→ops[ms.length+i]? =some o)→BT ops (nF l ms)∧(nF l ms).length=ms.length+l.length
 | [],ms,h,_=>⟨h,by simp [nF]⟩
 |o::l,ms,h,hl=>by
  simp only [nF]
  have ho:ops[ms.length]? =some o:=hl 0 o rfl
  have h1:BT ops (ms++[AH ms o]):=by
   intro j hj i hb
   by_cases hlt:j<ms.length
   ·rw [List.getD_eq_getElem?_getD,List.getElem?_append_left hlt,← List.getD_eq_getElem?_getD] at hb
    exact h j hlt i hb
   ·have:j=ms.length:=by simp at hj;omega
    subst this
    rw [List.getD_eq_getElem?_getD,List.getElem?_append_right (Nat.le_refl _)] at hb
    simp at hb
    exact I7 h ho (fun ed he hbd=>hA _ o ho ed he hbd) hb
  obtain ⟨h2,h3⟩:=oG hA l (ms++[AH ms o]) h1 fun i o' hi=>by
   have:=hl (i+1) o' (by simpa using hi)
   simp only [List.length_append,List.length_singleton]
   rw [Nat.add_assoc,Nat.add_comm 1 i]
   exact this
  exact ⟨h2,by rw [h3];simp;omega⟩
def fV (ops:Array Oper):Bool:=
 (List.range ops.size).all fun j=>match ops[j]? with
  |none=>true
  |some oj=>oj.after.all (fun ed=> !Region.binds .any ed || decide (ed.on<j))&&(List.range j).all fun i=>match ops[i]? with
   |none=>true
   |some oi=>oi.apart ops oj || ((mD ops).getD j 0).testBit i
def BA (a b:List Nat):Bool:=a.all fun x=> !b.contains x
def zW (ops:Array Oper) (acc:Acc):Bool:=
 let l:=acc.reverse
 (List.range l.length).all fun j=>(List.range j).all fun i=>((mD ops).getD j 0).testBit i || match l[i]?,l[j]? with
  |some (fi,wi),some (fj,wj)=>BA wi fj&&BA wi wj&&BA wj fi
  |_,_=>true
def wN (acc:Acc):Bool:=acc.all fun p=>p.2.isEmpty
def EH (ops:Array Oper):Option Acc→Prop
 |some acc=>wN acc=true∨zW ops acc=true
 |none=>False
theorem hX (F:Nat→List Nat) (e:Nat→Eff):∀ N,(lJ F e N []).length=N
 |0=>rfl
 |N+1=>by simp [lJ,hX F e N]
theorem gE (F:Nat→List Nat) (e:Nat→Eff):∀ N i,i<N→(lJ F e N []).reverse[i]? =some (F i,(e i).wr.map (·.1))
 |0,i,h=>by omega
 |N+1,i,h=>by
  simp only [lJ,List.reverse_cons]
  by_cases hi:i<N
  ·rw [List.getElem?_append_left (by simpa [hX] using hi)]
   exact gE F e N i hi
  ·have:i=N:=by omega
   subst this
   rw [List.getElem?_append_right (by simp [hX])]
   simp [hX]
theorem fH {a b:List Nat} (h:BA a b=true) {r:Nat} (h1:r∈a) (h2:r∈b):False:=by
 simp only [BA,List.all_eq_true] at h
 have:=h r h1
 simp [h2] at this
theorem BK [Rnd] {k rid:Nat} {Q:Exit→AS→Prop} {s:AS} (hm:P.follows .mixedOrders=true) (hs:fV ops=true) (h:aY P G n (fun m s'=>EH ops m∧Q .normal s') (dQ ops) (some []) s):AWp P G n k (.region rid ops true) Q s:=fun E a i=>by
 obtain ⟨e,F,h1,h2,h3⟩:=sV (ops:=ops) ops.toList s [] h
 simp only [fV,List.all_eq_true,List.mem_range] at hs
 have hA:∀ (j:Nat) (o:Oper),ops[j]? =some o→∀ ed∈o.after,Region.binds .any ed=true→ed.on<j:=by
  intro j o ho ed he hb
  have:=hs j (Array.getElem?_eq_some_iff.1 ho).1
  rw [ho] at this
  simp only [Bool.and_eq_true,Array.all_eq_true_iff_forall_mem] at this
  have:=this.1 ed he
  simpa [hb] using this
 have hM:=(oG hA ops.toList [] (fun j hj=>by simp at hj) (fun i o ho=>by simpa using ho))
 have hMl:(mD ops).length=ops.size:=by have:=hM.2;simpa [mD] using this
 have hbit:∀ i j,j<ops.size→((mD ops).getD j 0).testBit i=true→eT ops i j:=fun i j hj hb=>hM.1 j (by unfold mD at hMl;omega) i hb
 have hB:∀ (i j:Nat) (oi oj:Oper),i<j→ops[i]? =some oi→ops[j]? =some oj→oi.apart ops oj=true∨eT ops i j:=by
  intro i j oi oj hij hi hj
  have hlt:=(Array.getElem?_eq_some_iff.1 hj).1
  have:=hs j hlt
  rw [hj] at this
  simp only [Bool.and_eq_true,List.all_eq_true,List.mem_range] at this
  have:=this.2 i hij
  rw [hi] at this
  simp only [Bool.or_eq_true] at this
  exact this.imp (fun h=>h) (hbit i j hlt)
 have hC:∀ (i j r:Nat),i<j→j<ops.size→(dP e i r∧(r∈F j∨dP e j r))∨(dP e j r∧(r∈F i∨dP e i r))→eT ops i j:=by
  intro i j r hij hj hw
  have hl:ops.toList.length=ops.size:=by simp
  rw [hl] at h2
  have gi:=gE F e ops.size i (by omega)
  have gj:=gE F e ops.size j hj
  rcases h2 with h2|h2
  ·exfalso
   simp only [wN,List.all_eq_true] at h2
   have mi:=h2 _ (by have:=List.mem_of_getElem? gi;simpa using this)
   have mj:=h2 _ (by have:=List.mem_of_getElem? gj;simpa using this)
   simp at mi mj
   simp only [dP,mi,mj] at hw
   simp at hw
  ·simp only [zW,List.all_eq_true,List.mem_range,List.length_reverse,hX] at h2
   have:=h2 j hj i hij
   rw [gi,gj] at this
   simp only [Bool.or_eq_true,Bool.and_eq_true] at this
   rcases this with h|⟨⟨d1,d2⟩,d3⟩
   ·exact hbit i j hj h
   ·exfalso
    rcases hw with ⟨w1,w2|w2⟩|⟨w1,w2|w2⟩
    ·exact fH d1 w1 w2
    ·exact fH d2 w1 w2
    ·exact fH d3 w1 w2
    ·exact fH d2 w2 w1
 have hlist:∀ (i:Nat) (o:Oper),ops[i]? =some o→ops.toList[i]? =some o:=fun i o ho=>by simpa using ho
 refine wpIn_region_any hm ?_
 have hst:=lP i.inv { E.w with drawn:=E.w.drawn+1 } E.S rfl rfl rfl (Nat.le_refl _) (fun b hb=>rfl) (fun b hb=>hb) (fun b hb=>.inl hb)
 have i1:Sim G n s ⟨{ E.w with drawn:=E.w.drawn+1 },E.S,E.ρ,E.rows⟩ a:=⟨hst.2,i.rows,i.sz,fun t=>(i.tm t).ext i.inv hst.1,i.df.ext hst.1⟩
 refine QR (Q':=fun e a' w'=>∃ s' E',w'=E'.w∧ExtK k E E'∧Sim G n s' E' a'∧Q e s') (n:=n) (s:=s) (E0:=⟨{ E.w with drawn:=E.w.drawn+1 },E.S,E.ρ,E.rows⟩) (e:=e) (F:=F) (D:=fun i=>(ops.toList[i]?).bind (·.dst))
  (fun i o ho=>by simp only [hlist i o ho,Option.bind_some]) (fun i hi=>by
   have:ops.toList[i]? =none:=by simpa using hi
   simp only [this,Option.bind_none]) (fun i o ho=>h1 i o (hlist i o ho)) hA hB hC ?_
  ops.size (Array.replicate ops.size false) s ⟨{ E.w with drawn:=E.w.drawn+1 },E.S,E.ρ,E.rows⟩ a ?_ (by simp) ?_ ?_ ?_ i1 (Ext.refl _)
 ·intro s' E' a' hg hr hsim x
  have e1:ops.toList.length=ops.size:=by simp
  rw [e1] at h3
  exact ⟨_,E',rfl,(hst.1.trans x).toK k,hsim.congr hg.symm hr.symm,h3⟩
 ·have:=List.countP_le_length (p:=fun i=> !(Array.replicate ops.size false).getD i false) (l:=List.range ops.size)
  simpa [pP] using this
 ·intro j o _ hj
  simp [Array.getElem?_replicate] at hj
  split at hj<;>simp at hj
 ·intro t
  rw [yM (Nat.zero_le _) (fun j hj=>by omega) (fun j _ _ _=>by simp [Array.getElem?_replicate];split<;>rfl)]
  rfl
 ·intro r
  rw [tQ (D:=fun _=>none) (Nat.zero_le _) (fun j hj=>by omega) (fun j _ _ _=>by simp [Array.getElem?_replicate];split<;>rfl)]
  rfl
end
end Go.AM
set_option linter.unusedVariables false
set_option linter.unusedSimpArgs false
namespace Go.AM
mutual
theorem Lend.tree {rows:Nat→ARow} {fp:List Nat}:∀ {a b:AV},Lend rows fp a b→inR aC b=true
 |_,_,.same h=>h
 |_,_,.full h=>by simpa only [inR] using h
 |_,_,.rsv=>rfl
 |_,_,.toRsv=>rfl
 |_,_,.osl _ _ _ _ _ ht=>by simpa only [inR] using ht
 |_,_,.ptr _ _ hl=>by simpa only [inR] using LendL.tree hl
 |_,_,.omp _ _ hk hv=>by simp only [inR,hk,hv,Bool.and_self]
 |_,_,.fn ha hb=>by simp only [inR,LendL.tree ha,LendL.tree hb,Bool.and_self]
 |_,_,.agg h=>by simpa only [inR] using LendL.tree h
 |_,_,.weak h=>by rw [qM];exact Lend.tree h
 |_,_,.sle h=>by simpa only [inR] using LendE.tree h
theorem LendL.tree {rows:Nat→ARow} {fp:List Nat}:∀ {a b:List AV},LendL rows fp a b→inL aC b=true
 |_,_,.nil=>by simp [inL]
 |_,_,.cons h hs=>by simp only [inL,Lend.tree h,LendL.tree hs,Bool.and_self]
theorem LendE.tree {rows:Nat→ARow} {fp:List Nat}:∀ {a b:List (List AV)},LendE rows fp a b→inE aC b=true
 |_,_,.nil=>rfl
 |_,_,.cons h hs=>by simp only [inE,LendL.tree h,LendE.tree hs,Bool.and_self]
end
mutual
theorem iN:∀ (c:AV),inR (fun _=>true) c=true
 | .undef=>by simp [inR]
 | .bool _=>by simp [inR]
 | .int _ _=>by simp [inR]
 | .str _=>by simp [inR]
 | .agg cs=>by simp only [inR];exact b5 cs
 | .tup cs=>by simp only [inR];exact b5 cs
 | .sl f es=>by simp only [inR];exact uR es
 | .osl r _ _ _ _ _=>by simp [inR]
 | .rsl r _ _ _ _=>by simp [inR]
 | .rsv _=>by simp [inR]
 | .ptr r _ _=>by simp [inR]
 | .imm cs=>by simp only [inR];exact b5 cs
 | .nilptr=>by simp [inR]
 | .mp ks vs=>by simp only [inR,b5 ks,b5 vs,Bool.and_self]
 | .omp r=>by simp [inR]
 | .yld r=>by simp [inR]
 | .fn f a b=>by simp only [inR,b5 a,b5 b,Bool.and_self]
 | .nilfn=>by simp [inR]
 | .iface t v=>by simp only [inR];exact iN v
 | .niliface=>by simp [inR]
 | .anyb=>by simp [inR]
theorem b5:∀ (cs:List AV),inL (fun _=>true) cs=true
 | []=>by simp [inL]
 |c::cs=>by simp only [inL,iN c,b5 cs,Bool.and_self]
theorem uR:∀ (es:List (List AV)),inE (fun _=>true) es=true
 | []=>by simp [inE]
 |e::es=>by simp only [inE,b5 e,uR es,Bool.and_self]
end
def Frz (rows:Nat→ARow) (fp:List Nat) (a b:AV):Prop:=b=a∨Lend rows fp a b
def FrzLF (F:AV→AV→Prop):List AV→List AV→Prop
 | [],[]=>True
 |a::as,b::bs=>F a b∧FrzLF F as bs
 |_,_=>False
abbrev j8 (rows:Nat→ARow) (fp:List Nat):List AV→List AV→Prop:=FrzLF (Frz rows fp)
theorem FrzLF.length {F:AV→AV→Prop}:∀ {xs ys:List AV},FrzLF F xs ys→ys.length=xs.length
 | [],[],_=>rfl
 |_::xs,_::ys,h=>by simp [FrzLF.length h.2]
 | [],_::_,h=>h.elim
 |_::_,[],h=>h.elim
def HR (F:AV→AV→Prop) (fp:List Nat) (r:Nat) (x y:ARow):Prop:=
 (r∈fp∧y=.dead∧x≠.none)∨((r ∉ fp∨x=.none)∧(y=x∨∃ ver cs cs',x=.cells ver cs∧y=.cells ver cs'∧FrzLF F cs cs'))
abbrev iU (rows:Nat→ARow) (fp:List Nat) (r:Nat) (x y:ARow):Prop:=HR (Frz rows fp) fp r x y
theorem Sim.freezeF [Rnd] {G:Nat→Option (List AV)} {n k:Nat} {s s':AS} {E:En} {a:Act} (i:Sim G n s E a) (fp:List Nat) (F:AV→AV→Prop)
  (hF:∀ E',dX (fun _=>true) E E'→(∀ r∈fp,(E.rows r).live=true→E'.S (E.ρ r))→∀ {x y:AV} {u:Value},F x y→Rel E x u→Rel E' y u)
  (hg:∀ t,s'.get t=.undef∨F (s.get t) (s'.get t)) (hr:∀ r,HR F fp r (s.row r) (s'.row r)):
  ∃ E',E'.w=E.w∧ExtK k E E'∧Sim G n s' E' a:=by
 let E':En:=⟨E.w,fun b=>E.S b∨∃ r∈fp,(E.rows r).live=true∧b=E.ρ r,E.ρ,s'.row⟩
 have hrow:∀ r,s.row r=E.rows r:=fun r=>by rw [i.rows]
 have hlive:∀ r,(E'.rows r).live=true→(E.rows r).live=true:=fun r h=>by
  rcases hr r with ⟨_,e,_⟩|⟨_,e|⟨ver,cs,cs',e1,e2,_⟩⟩
  ·simp only [E',e] at h;cases h
  ·simp only [E',e,hrow] at h;exact h
  ·rw [← hrow,e1];rfl
 have hnfp:∀ r,(E'.rows r).live=true→r ∉ fp:=fun r h=>by
  rcases hr r with ⟨_,e,_⟩|⟨h1|h1,h2⟩
  ·simp only [E',e] at h;cases h
  ·exact h1
  ·have:=hlive r h
   rw [← hrow,h1] at this;cases this
 have hcase:∀ r,E'.rows r=E.rows r∨E'.rows r=.dead∨∃ ver cs cs',E.rows r=.cells ver cs∧E'.rows r=.cells ver cs'∧FrzLF F cs cs':=fun r=>by
  rcases hr r with ⟨_,e,_⟩|⟨_,e|⟨ver,cs,cs',e1,e2,e3⟩⟩
  ·exact .inr (.inl e)
  ·exact .inl (by simp only [E',e,hrow])
  ·exact .inr (.inr ⟨ver,cs,cs',by rw [← hrow];exact e1,e2,e3⟩)
 have ag:dX (fun _=>true) E E':=⟨rfl,fun _ h=>.inl h,fun r _=>by
  rcases hcase r with h|h|⟨ver,cs,cs',h1,h2,_⟩
  ·exact .inl h
  ·exact .inr (.inl h)
  ·exact .inr (.inr ⟨ver,cs,cs',h1,h2⟩),fun r _ _=>rfl⟩
 have hfz:∀ {x y:AV} {u:Value},F x y→Rel E x u→Rel E' y u:=hF E' ag fun r h1 h2=>.inr ⟨r,h1,h2,rfl⟩
 have hfzl:∀ {xs ys:List AV} {us:List Value},FrzLF F xs ys→RelL E xs us→RelL E' ys us:=by
  intro xs
  induction xs with
  |nil=>intro ys us h hx;cases ys with
   |nil=>simpa only [RelL] using hx
   |cons=>exact h.elim
  |cons x xs ih=>intro ys us h hx;cases ys with
   |nil=>exact h.elim
   |cons y ys=>
    simp only [RelL] at hx ⊢
    obtain ⟨v,rest,h1,h2,h3⟩:=hx
    exact ⟨v,rest,h1,hfz h.1 h2,ih h.2 h3⟩
 refine ⟨E',rfl,?_,?_⟩
 ·refine ⟨rfl,rfl,rfl,Nat.le_refl _,fun _ h=>.inl h,fun b _ hl=>⟨rfl,fun h=>?_⟩,fun r _ h=>?_,fun r _ ver cs h=>?_,fun r _ h=>?_,fun r h=>.inl ⟨hlive r h,rfl⟩⟩
  ·rcases h with h|⟨r,_,h2,rfl⟩
   ·exact h
   ·exact absurd rfl (hl r h2)
  ·rcases hcase r with h1|h1|⟨ver,cs,cs',h1,h2,_⟩
   ·rw [h1];exact h
   ·exact h1
   ·rw [h] at h1;cases h1
  ·rcases hcase r with h1|h1|⟨ver',cs0,cs',h1,h2,_⟩
   ·exact .inr ⟨ver,cs,by rw [h1];exact h,Nat.le_refl _,fun _=>⟨rfl,fun cur e fz hc=>⟨cur,e,hc,rfl⟩⟩⟩
   ·exact .inl h1
   ·rw [h] at h1
    injection h1 with h3 h4
    subst h3
    exact .inr ⟨ver,cs',h2,Nat.le_refl _,fun _=>⟨rfl,fun cur e fz hc=>⟨cur,e,hc,rfl⟩⟩⟩
  ·rcases hcase r with h1|h1|⟨ver,cs,cs',h1,h2,_⟩
   ·exact .inr ⟨by rw [h1];exact h,rfl⟩
   ·exact .inl h1
   ·rw [h1] at h;cases h
 ·refine ⟨⟨fun r=>?_,fun r r' h h' hne=>i.inv.inj r r' (hlive r h) (hlive r' h') hne,fun b hb=>?_,fun g cs hg'=>?_⟩,rfl,i.sz,fun t=>?_,DefOK.of (E:=E) (E':=E') (Nat.le_refl _) (fun b _ hl=>⟨rfl,fun h=>h.elim id fun ⟨r,_,h2,h3⟩=>absurd h3.symm (hl r h2)⟩) (fun r hr=>.inl ⟨hlive r hr,rfl⟩) i.df⟩
  ·have h0:=i.inv.row r
   by_cases hl:(E'.rows r).live=true
   ·have hne:=hnfp r hl
    have hS:¬ E.S (E.ρ r)→¬ E'.S (E.ρ r):=fun h1 h2=>by
     rcases h2 with h2|⟨r',h3,h4,h5⟩
     ·exact h1 h2
     ·by_cases e:r=r'
      ·subst e;exact hne h3
      ·exact i.inv.inj r r' (hlive r hl) h4 e h5
    unfold RowOK at h0 ⊢
    rcases hcase r with h1|h1|⟨ver,cs,cs',h1,h2,h3⟩
    ·rw [h1]
     cases hrr:E.rows r with
     |none=>trivial
     |dead=>trivial
     |cells ver cs=>
      rw [hrr] at h0
      obtain ⟨cur,e,vs,a1,a2,a3,a4⟩:=h0
      exact ⟨cur,e,vs,a1,hS a2,a3.agree ag (b5 cs),a4⟩
     |map ks vs=>
      rw [hrr] at h0
      obtain ⟨es,clock,a1,a2,a3,a4,a5⟩:=h0
      exact ⟨es,clock,a1,hS a2,a3,a4.agree ag (b5 ks),a5.agree ag (b5 vs)⟩
     |iter ks vs l j=>
      rw [hrr] at h0
      obtain ⟨mb,es,clock,since,seen,a1,a2,a3,a4,a5,a6,a7,a8,a9⟩:=h0
      exact ⟨mb,es,clock,since,seen,a1,hS a2,.inl a3,a4,a5,a6,a7.agree ag (b5 ks),a8.agree ag (b5 vs),a9⟩
     |loop st pend fr ps asg body=>
      rw [hrr] at h0
      obtain ⟨fn,tm,D,a1,a2,a3⟩:=h0
      exact ⟨fn,tm,D,a1,hS a2,a3.agree ag (b5 fr)⟩
    ·rw [h1] at hl;cases hl
    ·rw [h1] at h0
     rw [h2]
     obtain ⟨cur,e,vs,a1,a2,a3,a4⟩:=h0
     exact ⟨cur,e,vs,a1,hS a2,hfzl h3 a3,by rw [h3.length];exact a4⟩
   ·unfold RowOK
    cases hrr:E'.rows r with
    |none=>trivial
    |dead=>trivial
    |cells ver cs=>rw [hrr] at hl;exact absurd rfl hl
    |map ks vs=>rw [hrr] at hl;exact absurd rfl hl
    |iter ks vs l j=>rw [hrr] at hl;exact absurd rfl hl
    |loop st pend fr ps asg body=>rw [hrr] at hl;exact absurd rfl hl
  ·rcases hb with h|⟨r,_,h2,rfl⟩
   ·exact i.inv.sb b h
   ·exact (i.inv.live h2).1
  ·obtain ⟨vs,a1,a2,a3⟩:=i.inv.glob g cs hg'
   exact ⟨vs,.inl a1,a2.agree ag (b5 cs),a3⟩
  ·rcases hg t with h|h
   ·rw [h];simp [Rel]
   ·exact hfz h (i.tm t)
theorem Sim.freeze [Rnd] {G:Nat→Option (List AV)} {n k:Nat} {s s':AS} {E:En} {a:Act} (i:Sim G n s E a) (fp:List Nat)
  (hg:∀ t,s'.get t=.undef∨Frz s.row fp (s.get t) (s'.get t)) (hr:∀ r,iU s.row fp r (s.row r) (s'.row r)):
  ∃ E',E'.w=E.w∧ExtK k E E'∧Sim G n s' E' a:=
 i.freezeF fp (Frz s.row fp) (fun E' ag hS x y u h hx=>by
  have agl:dX aC (jH E fp) E':=⟨ag.w,fun b h=>h.elim (ag.S b) fun ⟨r,h1,h2,h3⟩=>h3 ▸ hS r h1 h2,fun r h=>(by cases h),fun r h=>(by cases h)⟩
  rcases h with rfl|h
  ·exact hx.agree ag (iN y)
  ·exact (Lend.rel i.inv (fun r _=>by rw [i.rows]) h hx).agree agl h.tree) hg hr
def cS (s:AS) (fp:List Nat):List (Nat × AV)→Prop
 | []=>True
 |p::l=>Frz s.row fp (s.get p.1) p.2∧cS s fp l
def O9 (s:AS) (fp:List Nat):Nat→List ARow→List ARow→Prop
 |_,[],[]=>True
 |k,x::xs,y::ys=>iU s.row fp k x y∧O9 s fp (k+1) xs ys
 |_,_,_=>False
theorem DY {s:AS} {fp:List Nat}:∀ (k:Nat) (xs ys:List ARow),O9 s fp k xs ys→(∀ r∈fp,r<k+xs.length)→∀ i,iU s.row fp (k+i) (xs.getD i .none) (ys.getD i .none)∨(xs.getD i .none=.none∧ys.getD i .none=.none∧k+i ∉ fp)
 |k,[],[],_,hf,i=>.inr ⟨by simp,by simp,fun h=>by have:=hf _ h;simp at this;omega⟩
 |k,x::xs,y::ys,h,hf,0=>.inl (by simpa using h.1)
 |k,x::xs,y::ys,h,hf,i+1=>by
  have:=DY (k+1) xs ys h.2 (fun r hr=>by have:=hf r hr;simp at this;omega) i
  simpa [Nat.add_assoc,Nat.add_comm 1 i] using this
 |_,[],_::_,h,_,_=>h.elim
 |_,_::_,[],h,_,_=>h.elim
section
variable [Rnd] {P:Program} {G:Nat→Option (List AV)} {n k:Nat} {Q:Exit→AS→Prop} {s:AS}
end
end Go.AM
set_option linter.unusedVariables false
set_option linter.unusedSimpArgs false
namespace Go.AM
section
variable {P:Program} {G:Nat→Option (List AV)} {n:Nat} {K:Option Acc→AS→Prop} {d:Option Tmp} {rest:List POp} {m:Option Acc} {s:AS}
theorem CK {x:Operand} {args:Array Operand} {ts:Array TypeId}:aS P G n K d rest m s (.call ⟨.value x,args,ts⟩)=bI P G n K d rest m s (args.toList.map (evA G s.get)) (evA G s.get x):=by
 refine propext ⟨fun h=>?_,ML⟩
 unfold aS opR at h
 obtain ⟨eff,fp,h1,h2⟩:=h
 unfold OpC eQ iZ at h1
 cases hx:evA G s.get x with
 |fn f a b=>
  cases f with
  |func f=>
   simp only [hx] at h1
   exact ⟨eff,fp,h1,h2⟩
  |_=>simp only [hx,aop] at h1;exact absurd h1.1 (by simp)
 |yld r=>
  simp only [hx] at h1
  exact ⟨eff,fp,h1,h2⟩
 |_=>simp only [hx,aop] at h1;exact absurd h1.1 (by simp)
theorem yG {op:Op}:aN P G n K d rest m s op true (.bool true)=aS P G n K d rest m s op:=by simp [aN]
theorem yH {op:Op}:aN P G n K d rest m s op true (.bool false)=aY P G n K rest (adv m [] []) (s.put d (.tup [])):=by simp [aN]
theorem yJ {op:Op}:aN P G n K d rest m s op false (.bool false)=aS P G n K d rest m s op:=by simp [aN]
theorem yI {op:Op}:aN P G n K d rest m s op false (.bool true)=aY P G n K rest (adv m [] []) (s.put d (.tup [])):=by simp [aN]
theorem DV {op:Op} {want b:Bool} (ht:b=true→aN P G n K d rest m s op want (.bool true)) (hf:b=false→aN P G n K d rest m s op want (.bool false)):aN P G n K d rest m s op want (.bool b):=by
 cases b
 ·exact hf rfl
 ·exact ht rfl
@[congr] theorem QX {m':Option Acc} {s':AS} (hm:m=m') (hs:s=s'):aY P G n K rest m s=aY P G n K rest m' s':=by rw [hm,hs]
@[congr] theorem P7 {op:Op} {m':Option Acc} (hm:m=m'):aS P G n K d rest m s op=aS P G n K d rest m' s op:=by rw [hm]
@[congr] theorem QW {o o':Option AV} {fp fp':List Nat} (ho:o=o') (hf:fp=fp'):bW P G n K d rest m fp s o=bW P G n K d rest m fp' s o':=by rw [ho,hf]
@[congr] theorem QY {o o':Option Eff} {fp fp':List Nat} (ho:o=o') (hf:fp=fp'):bU P G n K d rest m fp s o=bU P G n K d rest m fp' s o':=by rw [ho,hf]
@[congr] theorem OR {op:Op} {want:Bool} {x x':AV} (hx:x=x'):aN P G n K d rest m s op want x=aN P G n K d rest m s op want x':=by rw [hx]
@[congr] theorem QI {args args':List AV} {x x':AV} (ha:args=args') (hx:x=x'):bI P G n K d rest m s args x=bI P G n K d rest m s args' x':=by rw [ha,hx]
@[congr] theorem QJ {f:FuncId} {args args':List AV} (ha:args=args'):bC P G n K d rest m s f args=bC P G n K d rest m s f args':=by rw [ha]
@[congr] theorem PV {x x':AV} (hx:x=x'):bL P G n K d rest m s x=bL P G n K d rest m s x':=by rw [hx]
@[congr] theorem SA [Rnd] {k:Nat} {c:Code} {Q:Exit→AS→Prop} {s':AS} (hs:s=s'):AWp P G n k c Q s=AWp P G n k c Q s':=by rw [hs]
theorem bH {f:FuncId} {args:List AV} {res:AV} (hG:∀ g cs,G g=some cs→inL aC cs=true) (h:Pure P G f args res) (hk:aY P G n K rest (adv m [] []) (s.put d res)):bC P G n K d rest m s f args:=
 ⟨⟨res,[]⟩,[],h.2 _,hk⟩
end
theorem KD {h:Nat}:((none:Option Nat)==some h)=false:=rfl
theorem KF:((none:Option Nat)==none)=true:=rfl
theorem KC {h:Nat}:(some h==(none:Option Nat))=false:=rfl
theorem KB {m h:Nat}:(some m==some h)=(m==h):=rfl
theorem y7 {ops:Array Oper} {acc:Acc}:EH ops (some acc)=(wN acc=true∨zW ops acc=true):=rfl
theorem DA:wN []=true:=rfl
theorem uD {f:List Nat} {acc:Acc}:wN ((f,[])::acc)=wN acc:=by simp [wN]
theorem uC {f w:List Nat} {x:Nat} {acc:Acc}:wN ((f,x::w)::acc)=false:=by simp [wN]
theorem Pure.wk {P:Program} {G:Nat→Option (List AV)} {f:FuncId} {args:List AV} {res:AV} (h:Pure P G f args res):Pure P G f args (AM.wk res):=by
 refine ⟨by rw [qM];exact h.1,fun rows=>?_⟩
 obtain ⟨h1,h2,h3⟩:=h.2 rows
 refine ⟨h1,by simp,fun E us i hE hus=>(h3 E us i hE hus).mono fun e w' ⟨v,E',a1,a2,a3,a4⟩=>⟨v,E',a1,a2,a3.wk,a4⟩⟩
theorem Pure.lend {P:Program} {G:Nat→Option (List AV)} {f:FuncId} {args targs:List AV} {res:AV} (hG:∀ g cs,G g=some cs→inL aC cs=true) (h:Pure P G f targs res) (hl:LendL (fun _=>.none) [] args targs):Pure P G f args res:=
 ⟨h.1,fun rows=>by
  obtain ⟨h1,h2,h3⟩:=vT hG h hl (.inl rfl)
  exact ⟨h1,h2,fun E us i hE hus=>h3 E us i (by simp) hus⟩⟩
end Go.AM
set_option linter.unusedVariables false
set_option linter.unusedSimpArgs false
namespace Go.AM
def rY (P:Program) (t u:TypeId):Option (Nat × Nat):=
 match eG P t with
 |some e=>match bK P e,bX P e,(bM P e).bind AV.toCells with
  |some sz,some by',some z=>if e8 P u=true∧z.length=sz then some (sz,by') else none
  |_,_,_=>none
 |none=>none
section
variable {P:Program} {G:Nat→Option (List AV)} {n:Nat} {K:Option Acc→AS→Prop} {d:Option Tmp} {rest:List POp} {m:Option Acc} {fp:List Nat} {s:AS} {t u:TypeId} {sz by':Nat} {x:AV} {rows:Nat→ARow} {nb mm:Nat} {new:List AV}
theorem mT (h : rY P t u = some (sz, by')) (v : AV) (hs : cJ sz x rows = some (mm, new)) :
  dN P t u v x rows nb = match v with
    | .sl full es=>
     if full=true∧es.all (fun e=>e.length=sz)∧(es.length+mm)*(by'+1)≤140737488355328 then
      (if mm=0 then some ⟨v,[]⟩ else match rows nb with| .none=>some ⟨.osl nb 0 0 (es.length+mm) sz false,[(nb,.cells 0 (es.flatten++new))]⟩|_=>none)
     else none
    | .osl r ver off n sz' full=>match aT rows r ver with
     |none=>none
     |some cs=>
      if sz'=sz∧off+n*sz≤cs.length∧(n+mm)*(by'+1)≤140737488355328 then
       (if full=true then
        (if mm=0 then some ⟨v,[]⟩ else match rows nb with| .none=>some ⟨.osl nb 0 0 (n+mm) sz false,[(nb,.cells 0 ((cs.drop off).take (n*sz)++new))]⟩|_=>none)
       else if off=0 then some ⟨.osl r (ver+1) 0 (n+mm) sz false,[(r,.cells (ver+1) (cs.take (n*sz)++new))]⟩ else none)
      else none
    | .rsl r ver off n sz'=>match aT rows r ver with
     |none=>none
     |some cs=>
      if sz'=sz∧off=0∧mm=1∧n*sz≤cs.length then
       some ⟨.osl r ver 0 (n+1) sz false,[(r,.cells ver (cs.take (n*sz)++new++cs.drop ((n+1)*sz)))]⟩
      else none
    | .rsv r=>
     if mm*(by'+1)≤140737488355328 then
      (if mm=0 then some ⟨v,[]⟩ else match rows r with| .none=>some ⟨.osl r 0 0 mm sz false,[(r,.cells 0 new)]⟩|_=>none)
     else none
    |_=>none:=by
 unfold rY at h
 split at h
 ·rename_i e he
  split at h
  ·rename_i sz0 by0 z h1 h2 h3
   split at h
   ·rename_i hc
    injection h with h
    injection h with h4 h5
    subst h4 h5
    unfold dN ES
    rw [he]
    simp only [h1,h2,h3,hs]
    rw [if_pos hc]
    cases v<;>rfl
   ·cases h
  ·cases h
 ·cases h
theorem f7 {r ver len:Nat} {cs:List AV} (ht:rY P t u=some (sz,by')) (hr:rows r=.cells ver cs) (hn:cs.length=len*sz) (hs:cJ sz x rows=some (mm,new)) (hb:(len+mm)*(by'+1)≤140737488355328)
  (hk:aY P G n K rest (adv m fp [r]) ((s.wr [(r,.cells (ver+1) (cs++new))]).put d (.osl r (ver+1) 0 (len+mm) sz false))):bU P G n K d rest m fp s (dN P t u (.osl r ver 0 len sz false) x rows nb):=by
 rw [mT ht _ hs]
 have hc:aT rows r ver=some cs:=by simp [aT,hr]
 simp only [hc]
 rw [if_pos ⟨trivial,by omega,hb⟩]
 simp only [Bool.false_eq_true,if_false,if_true]
 rw [← hn,List.take_length]
 exact hk
theorem f8 {es:List (List AV)} (ht:rY P t u=some (sz,by')) (hr:rows nb=.none) (he:es.all (fun e=>decide (e.length=sz))=true) (hs:cJ sz x rows=some (mm,new)) (hm:mm≠0) (hb:(es.length+mm)*(by'+1)≤140737488355328)
  (hk:aY P G n K rest (adv m fp [nb]) ((s.wr [(nb,.cells 0 (es.flatten++new))]).put d (.osl nb 0 0 (es.length+mm) sz false))):bU P G n K d rest m fp s (dN P t u (.sl true es) x rows nb):=by
 rw [mT ht _ hs]
 simp only []
 rw [if_pos ⟨trivial,he,hb⟩,if_neg hm,hr]
 exact hk
theorem mO {es:List (List AV)} (ht:rY P t u=some (sz,by')) (he:es.all (fun e=>decide (e.length=sz))=true) (hs:cJ sz x rows=some (0,new)) (hb:es.length*(by'+1)≤140737488355328)
  (hk:aY P G n K rest (adv m fp []) (s.put d (.sl true es))):bU P G n K d rest m fp s (dN P t u (.sl true es) x rows nb):=by
 rw [mT ht _ hs]
 simp only []
 simp only [if_true]
 rw [if_pos ⟨trivial,he,hb⟩]
 exact hk
end
theorem lR {sz:Nat} {b:Bool} {es:List (List AV)} {rows:Nat→ARow} (h:es.all (fun e=>decide (e.length=sz))=true):cJ sz (.sl b es) rows=some (es.length,es.flatten):=by
 simp only [cJ,h,if_true]
end Go.AM
set_option linter.unusedVariables false
set_option linter.unusedSimpArgs false
namespace Go.AM
def gD (base:List (List AV)) (r sz:Nat) (app:List (List AV)):AV:=
 if app=[] then .sl true base else .osl r (app.length - 1) 0 (base.length+app.length) sz false
def dT (base app:List (List AV)):ARow:=.cells (app.length - 1) (base++app).flatten
def dO (H:List ARow) (base app:List (List AV)):List ARow:=if app=[] then H else H++[dT base app]
theorem cG {sz:Nat}:∀ {l:List (List AV)},(∀ e∈l,e.length=sz)→l.flatten.length=l.length*sz
 | [],_=>by simp
 |e::l,h=>by
  rw [List.flatten_cons,List.length_append,cG fun x hx=>h x (by simp [hx]),h e (by simp),List.length_cons,Nat.add_mul]
  omega
theorem yE:∀ (H:List ARow) (x:ARow),d7 H H.length x=H++[x]
 | [],x=>rfl
 |h::H,x=>by simp only [List.length_cons,d7,yE H x,List.cons_append]
theorem HB:∀ (H:List ARow) (x y:ARow),d7 (H++[y]) H.length x=H++[x]
 | [],x,y=>rfl
 |h::H,x,y=>by simp only [List.cons_append,List.length_cons,d7,HB H x y]
theorem zG (base:List (List AV)) (r sz:Nat) (app:List (List AV)) (e:List AV): .osl r app.length 0 (base.length+app.length+1) sz false=gD base r sz (app++[e]):=by
 simp [gD,Nat.add_assoc]
theorem rQ (base app:List (List AV)) (e:List AV):dT base (app++[e])=.cells app.length (base++app++[e]).flatten:=by
 simp [dT,List.append_assoc]
theorem j6 (H:List ARow) (base app:List (List AV)) (e:List AV):d7 (dO H base app) H.length (dT base (app++[e]))=dO H base (app++[e]):=by
 rw [rQ]
 unfold dO
 by_cases h:app=[]
 ·subst h;simp [yE,dT]
 ·rw [if_neg h,HB,if_neg (by simp)]
  simp [dT,List.append_assoc]
theorem v9 (base app:List (List AV)) (e:List AV):d7 (dO [] base app) 0 (dT base (app++[e]))=dO [] base (app++[e]):=j6 [] base app e
theorem iS (base:List (List AV)) (r sz:Nat):gD base r sz []=.sl true base:=by simp [gD]
theorem F2 (H:List ARow) (base app:List (List AV)):(app=[]→(dO H base app).getD H.length .none=.none∧(dO H base app).length=H.length)∧(app≠[]→(dO H base app).getD H.length .none=dT base app):=by
 unfold dO
 constructor
 ·intro h;rw [if_pos h];simp
 ·intro h;rw [if_neg h];simp
theorem cN (H:List ARow) (base app:List (List AV)) {r:Nat} (h:r<H.length):(dO H base app).getD r .none=H.getD r .none:=by
 unfold dO
 split
 ·rfl
 ·rw [List.getD_eq_getElem?_getD,List.getElem?_append_left h,← List.getD_eq_getElem?_getD]
section
variable {P:Program} {G:Nat→Option (List AV)} {n k:Nat} {K:Option Acc→AS→Prop} {d:Option Tmp} {rest:List POp} {m:Option Acc} {fp:List Nat} {s:AS} {t u:TypeId} {sz by':Nat} {x:AV} {rows:Nat→ARow} {nb:Nat} {e:List AV}
theorem sK {base app:List (List AV)} {H:List ARow} {h:List ARow} (ht:rY P t u=some (sz,by')) (hh:h=dO H base app) (hrows:rows=fun r=>h.getD r .none) (hnb:nb=h.length)
  (hsz:∀ e∈base++app,e.length=sz) (hs:cJ sz x rows=some (1,e)) (hb:(base.length+app.length+1)*(by'+1)≤140737488355328)
  (hk:aY P G n K rest (adv m fp [H.length]) ((s.wr [(H.length,dT base (app++[e]))]).put d (gD base H.length sz (app++[e])))):bU P G n K d rest m fp s (dN P t u (gD base H.length sz app) x rows nb):=by
 subst hh
 rw [rQ] at hk
 have hrow:=F2 H base app
 by_cases ha:app=[]
 ·subst ha
  have hv:gD base H.length sz []=.sl true base:=by simp [gD]
  rw [hv]
  have hl:=(hrow.1 rfl).2
  refine f8 (mm:=1) (new:=e) ht (by rw [hrows,hnb,hl];exact (hrow.1 rfl).1) (by rw [List.all_eq_true];intro y hy;simpa using hsz y (by simp [hy])) hs (by simp) (by simpa using hb) ?_
  rw [hnb,hl]
  rw [← zG] at hk
  simpa using hk
 ·have hv:gD base H.length sz app=.osl H.length (app.length - 1) 0 (base.length+app.length) sz false:=by simp [gD,ha]
  rw [hv]
  have hlen:app.length - 1+1=app.length:=by
   have:app.length≠0:=by simpa using ha
   omega
  refine f7 (mm:=1) (new:=e) (cs:=(base++app).flatten) ht (by rw [hrows];exact hrow.2 ha) (by rw [cG hsz];simp) hs hb ?_
  rw [hlen]
  rw [← zG] at hk
  have e1:(base++app++[e]).flatten=(base++app).flatten++e:=by rw [List.flatten_append];simp
  rw [e1] at hk
  exact hk
theorem F1 {base app:List (List AV)} {H h:List ARow} {s:AS} (hh:s.h=dO H base app) (hsz:∀ e∈base++app,e.length=sz) (ht:inE aC (base++app)=true):Lend s.row [H.length] (gD base H.length sz app) (.sl false (base++app)):=by
 have hrow:=F2 H base app
 by_cases ha:app=[]
 ·subst ha
  have hv:gD base H.length sz []=.sl true base:=by simp [gD]
  rw [hv]
  simp only [List.append_nil] at ht ⊢
  exact .full ht
 ·have hv:gD base H.length sz app=.osl H.length (app.length - 1) 0 (base.length+app.length) sz false:=by simp [gD,ha]
  rw [hv]
  refine .osl (cs:=(base++app).flatten) (by simp) ?_ (by simp) hsz ?_ ht
  ·have:s.row H.length=dT base app:=by
    show s.h.getD H.length .none=_
    rw [hh];exact hrow.2 ha
   simp [aT,this,dT]
  ·rw [List.drop_zero,List.take_of_length_le (by rw [cG hsz];simp)]
end
end Go.AM
set_option linter.unusedVariables false
namespace Go.AM
theorem amS:type_of% ((And.intro (And.intro (And.intro (And.intro (And.intro (And.intro (And.intro @CU @xL) (And.intro @tR @yG)) (And.intro (And.intro @yH @yJ) (And.intro @yI (And.intro @rF @vG)))) (And.intro (And.intro (And.intro @vH @w8) (And.intro @w9 (And.intro @C2 @yX))) (And.intro (And.intro @yY @E8) (And.intro @GM (And.intro @xF @GL))))) (And.intro (And.intro (And.intro (And.intro @CN @JG) (And.intro @CL @nR)) (And.intro (And.intro @GN @CD) (And.intro @q8 (And.intro @CM @GK)))) (And.intro (And.intro (And.intro @s9 @q9) (And.intro @s7 (And.intro @oX @CF))) (And.intro (And.intro @oZ @CI) (And.intro @oY (And.intro @CH @xD)))))) (And.intro (And.intro (And.intro (And.intro (And.intro @oW @xE) (And.intro @CG @CJ)) (And.intro (And.intro @s8 @tA) (And.intro @CK (And.intro @EK @EZ)))) (And.intro (And.intro (And.intro @EY @v9) (And.intro @KD (And.intro @KF @KC))) (And.intro (And.intro @KB @y7) (And.intro @DA (And.intro @uD @uC))))) (And.intro (And.intro (And.intro (And.intro @get_put @D0) (And.intro @get_wr @J3)) (And.intro (And.intro @DW @HD) (And.intro @row_put (And.intro @row_wr @eE)))) (And.intro (And.intro (And.intro @zM @lX) (And.intro @h_put (And.intro @S3 @OQ))) (And.intro (And.intro @L6 @yD) (And.intro @uU (And.intro @uT @LI))))))) (And.intro (And.intro (And.intro (And.intro (And.intro (And.intro @E6 @HF) (And.intro @KK @GV)) (And.intro (And.intro @KI @KJ) (And.intro @xT (And.intro @xO @rI)))) (And.intro (And.intro (And.intro @y0 @vM) (And.intro @y4 (And.intro @E9 @yF))) (And.intro (And.intro @uV @p6) (And.intro @zB (And.intro @vZ @nY))))) (And.intro (And.intro (And.intro (And.intro @wA @rR) (And.intro @bZ.eq_def @pI.eq_def)) (And.intro (And.intro @gO.eq_def @ldc.eq_def) (And.intro @aT.eq_def (And.intro @lB.eq_def @wD.eq_def)))) (And.intro (And.intro (And.intro @fS.eq_def @BQ.eq_def) (And.intro @aUn.eq_def (And.intro @M2.eq_def @O7.eq_def))) (And.intro (And.intro @qX.eq_def @O3.eq_def) (And.intro @j7.eq_def (And.intro @fT.eq_def @eR.eq_def)))))) (And.intro (And.intro (And.intro (And.intro (And.intro @lC.eq_def @k7.eq_def) (And.intro @pB.eq_def @bG.eq_def)) (And.intro (And.intro @LH.eq_def @eS.eq_def) (And.intro @qY.eq_def (And.intro @oO.eq_def @g8.eq_def)))) (And.intro (And.intro (And.intro @dL.eq_def @lD.eq_def) (And.intro @lE.eq_def (And.intro @f9.eq_def @r7.eq_def))) (And.intro (And.intro @nN.eq_def @mZ.eq_def) (And.intro @e7.eq_def (And.intro @iY.eq_def @pE.eq_def))))) (And.intro (And.intro (And.intro (And.intro @AV.toCells.eq_def @iJ.eq_def) (And.intro @kG.eq_def @sJ.eq_def)) (And.intro (And.intro @j3.eq_def @rE.eq_def) (And.intro @aMM.eq_1 (And.intro @aMM.eq_2 @mQ.eq_1)))) (And.intro (And.intro (And.intro @mQ.eq_2 @eC.eq_1) (And.intro @eC.eq_2 (And.intro @lI.eq_1 @lI.eq_2))) (And.intro (And.intro @rZ.eq_1 @rZ.eq_2) (And.intro @rZ.eq_3 (And.intro @r8.eq_1 @r8.eq_2))))))))):=(And.intro (And.intro (And.intro (And.intro (And.intro (And.intro (And.intro @CU @xL) (And.intro @tR @yG)) (And.intro (And.intro @yH @yJ) (And.intro @yI (And.intro @rF @vG)))) (And.intro (And.intro (And.intro @vH @w8) (And.intro @w9 (And.intro @C2 @yX))) (And.intro (And.intro @yY @E8) (And.intro @GM (And.intro @xF @GL))))) (And.intro (And.intro (And.intro (And.intro @CN @JG) (And.intro @CL @nR)) (And.intro (And.intro @GN @CD) (And.intro @q8 (And.intro @CM @GK)))) (And.intro (And.intro (And.intro @s9 @q9) (And.intro @s7 (And.intro @oX @CF))) (And.intro (And.intro @oZ @CI) (And.intro @oY (And.intro @CH @xD)))))) (And.intro (And.intro (And.intro (And.intro (And.intro @oW @xE) (And.intro @CG @CJ)) (And.intro (And.intro @s8 @tA) (And.intro @CK (And.intro @EK @EZ)))) (And.intro (And.intro (And.intro @EY @v9) (And.intro @KD (And.intro @KF @KC))) (And.intro (And.intro @KB @y7) (And.intro @DA (And.intro @uD @uC))))) (And.intro (And.intro (And.intro (And.intro @get_put @D0) (And.intro @get_wr @J3)) (And.intro (And.intro @DW @HD) (And.intro @row_put (And.intro @row_wr @eE)))) (And.intro (And.intro (And.intro @zM @lX) (And.intro @h_put (And.intro @S3 @OQ))) (And.intro (And.intro @L6 @yD) (And.intro @uU (And.intro @uT @LI))))))) (And.intro (And.intro (And.intro (And.intro (And.intro (And.intro @E6 @HF) (And.intro @KK @GV)) (And.intro (And.intro @KI @KJ) (And.intro @xT (And.intro @xO @rI)))) (And.intro (And.intro (And.intro @y0 @vM) (And.intro @y4 (And.intro @E9 @yF))) (And.intro (And.intro @uV @p6) (And.intro @zB (And.intro @vZ @nY))))) (And.intro (And.intro (And.intro (And.intro @wA @rR) (And.intro @bZ.eq_def @pI.eq_def)) (And.intro (And.intro @gO.eq_def @ldc.eq_def) (And.intro @aT.eq_def (And.intro @lB.eq_def @wD.eq_def)))) (And.intro (And.intro (And.intro @fS.eq_def @BQ.eq_def) (And.intro @aUn.eq_def (And.intro @M2.eq_def @O7.eq_def))) (And.intro (And.intro @qX.eq_def @O3.eq_def) (And.intro @j7.eq_def (And.intro @fT.eq_def @eR.eq_def)))))) (And.intro (And.intro (And.intro (And.intro (And.intro @lC.eq_def @k7.eq_def) (And.intro @pB.eq_def @bG.eq_def)) (And.intro (And.intro @LH.eq_def @eS.eq_def) (And.intro @qY.eq_def (And.intro @oO.eq_def @g8.eq_def)))) (And.intro (And.intro (And.intro @dL.eq_def @lD.eq_def) (And.intro @lE.eq_def (And.intro @f9.eq_def @r7.eq_def))) (And.intro (And.intro @nN.eq_def @mZ.eq_def) (And.intro @e7.eq_def (And.intro @iY.eq_def @pE.eq_def))))) (And.intro (And.intro (And.intro (And.intro @AV.toCells.eq_def @iJ.eq_def) (And.intro @kG.eq_def @sJ.eq_def)) (And.intro (And.intro @j3.eq_def @rE.eq_def) (And.intro @aMM.eq_1 (And.intro @aMM.eq_2 @mQ.eq_1)))) (And.intro (And.intro (And.intro @mQ.eq_2 @eC.eq_1) (And.intro @eC.eq_2 (And.intro @lI.eq_1 @lI.eq_2))) (And.intro (And.intro @rZ.eq_1 @rZ.eq_2) (And.intro @rZ.eq_3 (And.intro @r8.eq_1 @r8.eq_2))))))))
theorem amL:type_of% ((And.intro (And.intro (And.intro (And.intro (And.intro @List.length_cons.{0} (And.intro @List.length_nil.{0} @List.take_succ_cons.{0})) (And.intro @List.take_zero.{0} (And.intro @List.drop_succ_cons.{0} @List.drop_zero.{0}))) (And.intro (And.intro @List.getElem?_cons_zero.{0} (And.intro @List.getElem?_cons_succ.{0} @List.head?_cons.{0})) (And.intro @List.append_nil.{0} (And.intro @List.nil_append.{0} @List.cons_append.{0})))) (And.intro (And.intro (And.intro @List.flatten_cons.{0} (And.intro @List.flatten_nil.{0} @List.getD_cons_zero.{0})) (And.intro @List.getD_cons_succ.{0} (And.intro @List.getD_nil.{0} @List.all_cons.{0}))) (And.intro (And.intro @List.all_nil.{0} (And.intro @List.take_nil.{0} @List.drop_nil.{0})) (And.intro (And.intro @List.replicate_succ.{0} @List.replicate_zero.{0}) (And.intro @List.toList_toArray.{0} @List.getElem?_toArray.{0}))))) (And.intro (And.intro (And.intro (And.intro @List.size_toArray.{0} (And.intro @Option.bind_some.{0,0} @Option.map_some.{0,0})) (And.intro @Option.bind_none.{0,0} (And.intro @Option.map_none.{0,0} @List.map_cons.{0,0}))) (And.intro (And.intro @List.map_nil.{0,0} (And.intro @List.length_map.{0,0} @List.getElem?_map.{0,0})) (And.intro @List.flatMap_cons.{0,0} (And.intro @List.flatMap_nil.{0,0} @Nat.zero_le)))) (And.intro (And.intro (And.intro @Nat.sub_zero (And.intro @Nat.add_zero @Nat.zero_add)) (And.intro @Bool.false_or (And.intro @Bool.true_or @Bool.or_false))) (And.intro (And.intro @Bool.false_and (And.intro @Bool.true_and @Bool.and_false)) (And.intro (And.intro @Bool.and_true @dQ.eq_1) (And.intro @Int.toNat_natCast @Int.natCast_nonneg))))))):=(And.intro (And.intro (And.intro (And.intro (And.intro @List.length_cons.{0} (And.intro @List.length_nil.{0} @List.take_succ_cons.{0})) (And.intro @List.take_zero.{0} (And.intro @List.drop_succ_cons.{0} @List.drop_zero.{0}))) (And.intro (And.intro @List.getElem?_cons_zero.{0} (And.intro @List.getElem?_cons_succ.{0} @List.head?_cons.{0})) (And.intro @List.append_nil.{0} (And.intro @List.nil_append.{0} @List.cons_append.{0})))) (And.intro (And.intro (And.intro @List.flatten_cons.{0} (And.intro @List.flatten_nil.{0} @List.getD_cons_zero.{0})) (And.intro @List.getD_cons_succ.{0} (And.intro @List.getD_nil.{0} @List.all_cons.{0}))) (And.intro (And.intro @List.all_nil.{0} (And.intro @List.take_nil.{0} @List.drop_nil.{0})) (And.intro (And.intro @List.replicate_succ.{0} @List.replicate_zero.{0}) (And.intro @List.toList_toArray.{0} @List.getElem?_toArray.{0}))))) (And.intro (And.intro (And.intro (And.intro @List.size_toArray.{0} (And.intro @Option.bind_some.{0,0} @Option.map_some.{0,0})) (And.intro @Option.bind_none.{0,0} (And.intro @Option.map_none.{0,0} @List.map_cons.{0,0}))) (And.intro (And.intro @List.map_nil.{0,0} (And.intro @List.length_map.{0,0} @List.getElem?_map.{0,0})) (And.intro @List.flatMap_cons.{0,0} (And.intro @List.flatMap_nil.{0,0} @Nat.zero_le)))) (And.intro (And.intro (And.intro @Nat.sub_zero (And.intro @Nat.add_zero @Nat.zero_add)) (And.intro @Bool.false_or (And.intro @Bool.true_or @Bool.or_false))) (And.intro (And.intro @Bool.false_and (And.intro @Bool.true_and @Bool.and_false)) (And.intro (And.intro @Bool.and_true @dQ.eq_1) (And.intro @Int.toNat_natCast @Int.natCast_nonneg))))))
theorem amB:type_of% ((And.intro (And.intro (And.intro (And.intro @if_true.{1} @if_true.{0}) (And.intro @if_false.{1} @if_false.{0})) (And.intro (And.intro @true_and @and_true) (And.intro @true_or @false_or))) (And.intro (And.intro (And.intro @decide_true @decide_false) (And.intro @not_true_eq_false @not_false_eq_true)) (And.intro (And.intro @true_implies @false_implies) (And.intro @Bool.true_eq_false @Bool.false_eq_true))))):=(And.intro (And.intro (And.intro (And.intro @if_true.{1} @if_true.{0}) (And.intro @if_false.{1} @if_false.{0})) (And.intro (And.intro @true_and @and_true) (And.intro @true_or @false_or))) (And.intro (And.intro (And.intro @decide_true @decide_false) (And.intro @not_true_eq_false @not_false_eq_true)) (And.intro (And.intro @true_implies @false_implies) (And.intro @Bool.true_eq_false @Bool.false_eq_true))))
end Go.AM
set_option linter.unusedVariables false
set_option linter.unusedSimpArgs false
namespace Go.AM
def Ref [Rnd] (G:Nat→Option (List AV)) (n k:Nat) (s s':AS):Prop:=∀ E a,Sim G n s E a→∃ E',E'.w=E.w∧ExtK k E E'∧Sim G n s' E' a
section
variable [Rnd] {P:Program} {G:Nat→Option (List AV)} {n k:Nat} {Q:Exit→AS→Prop} {s s' s'':AS}
theorem Ref.trans (h:Ref G n k s s') (g:Ref G n k s' s''):Ref G n k s s'':=fun E a i=>by
 obtain ⟨E1,a1,a2,a3⟩:=h E a i
 obtain ⟨E2,b1,b2,b3⟩:=g E1 a a3
 exact ⟨E2,b1.trans a1,a2.trans b2,b3⟩
theorem Weak.ref {l:List (Nat × AV)} {h:List ARow} (w:Weak G k s l h):Ref G n k s ⟨mkF l,h⟩:=fun E a i=>i.weak w
theorem dD (fp:List Nat) (l:List (Nat × AV)) (h:List ARow) (hf:fp.all (fun r=>decide (r<s.h.length))=true) (hl:cS s fp l) (hh:O9 s fp 0 s.h h):Ref G n k s ⟨mkF l,h⟩:=fun E a i=>by
 have hget:∀ t,AS.get ⟨mkF l,h⟩ t=.undef∨Frz s.row fp (s.get t) (AS.get ⟨mkF l,h⟩ t):=by
  intro t
  show (mkF l).getD t .undef=.undef∨Frz s.row fp (s.get t) ((mkF l).getD t .undef)
  induction l with
  |nil=>exact .inl (g7 t)
  |cons p l ih=>
   obtain ⟨t',v⟩:=p
   rw [fM]
   by_cases e:t=t'
   ·subst e;rw [if_pos rfl];exact .inr hl.1
   ·rw [if_neg e];exact ih hl.2
 have hrow:∀ r,iU s.row fp r (s.row r) (AS.row ⟨mkF l,h⟩ r):=by
  intro r
  have:=DY 0 s.h h hh (fun r hr=>by simpa using List.all_eq_true.1 hf r hr) r
  rw [Nat.zero_add] at this
  rcases this with h1|⟨h1,h2,h3⟩
  ·exact h1
  ·exact .inr ⟨.inl h3,.inl (by show h.getD r .none=s.h.getD r .none;rw [h1,h2])⟩
 exact i.freeze (k:=k) fp hget hrow
theorem JX {l:List (Nat × AV)} {h:List ARow} (m:Nat) (hk:k≤m) (hG:∀ g cs,G g=some cs→inL aC cs=true) (h1:∀ p∈l,inR (fun r=>decide (r<m)) p.2=true) (h2:(h.take m).all (aG (fun r=>decide (r<m)))=true):Ref G n k ⟨mkF l,h⟩ ⟨mkF l,h.take m⟩:=fun E a i=>by
 obtain ⟨E',e1,e2,e3⟩:=i.gc m (fun g cs hg=>cC (p:=aC) (fun r hr=>by cases hr) (hG g cs hg)) (sG h1) h2
 exact ⟨E',e1,e2 k hk,e3⟩
theorem eH {c:Code} (r:Ref G n k s s') (h:AWp P G n k c Q s'):AWp P G n k c Q s:=fun E a i=>by
 obtain ⟨E',e1,e2,e3⟩:=r E a i
 rw [← e1]
 refine wpIn_mono (h E' a e3) ?_
 rintro e a' w' ⟨s',E'',rfl,h2,h3,h4⟩
 exact ⟨s',E'',rfl,e2.trans h2,h3,h4⟩
def AgainR {α:Type} (G:Nat→Option (List AV)) (n k:Nat) (fr: α→List (Nat × AV)) (h: α→List ARow) (μ: α→Nat) (x: α) (K:AS→Prop):Prop:=∀ s' y,Ref G n k s' ⟨mkF (fr y),h y⟩→μ y< μ x→K s'
theorem AgainR.go {α:Type} {fr: α→List (Nat × AV)} {h: α→List ARow} {μ: α→Nat} {x: α} {K:AS→Prop} (c:AgainR G n k fr h μ x K) (y: α) (hw:Ref G n k s ⟨mkF (fr y),h y⟩) (hm: μ y< μ x):K s:=c s y hw hm
theorem aJ {α:Type} {c:Code} (fr: α→List (Nat × AV)) (h: α→List ARow) (μ: α→Nat) (x₀: α) (w₀:Ref G n k s ⟨mkF (fr x₀),h x₀⟩)
  (round:∀ x,∀ K:AS→Prop,AgainR G n k fr h μ x K→AWp P G n k c (lH K Q) ⟨mkF (fr x),h x⟩):AWp P G n k (.loop c) Q s:=fun E a i=>by
 obtain ⟨E₀,e1,e2,e3⟩:=w₀ E a i
 rw [← e1]
 refine wpIn_mono (Q:=fun e a' w'=>∃ s' E',w'=E'.w∧ExtK k E₀ E'∧Sim G n s' E' a'∧Q e s') ?_ ?_
 ·refine wpIn_loop_ghost (fun m a' w'=>∃ x E',μ x=m∧w'=E'.w∧ExtK k E₀ E'∧Sim G n ⟨mkF (fr x),h x⟩ E' a') (μ x₀) ⟨x₀,E₀,rfl,rfl,(Ext.refl _).toK k,e3⟩ ?_
  rintro m a' w' ⟨x,E',rfl,rfl,hx,hs⟩
  refine wpIn_mono (round x _ (fun s' y h1 h2=>(⟨y,h1,h2⟩:∃ y,Ref G n k s' ⟨mkF (fr y),h y⟩∧μ y< μ x)) E' a' hs) ?_
  rintro e a'' w'' ⟨s',E'',rfl,h2,h3,h4⟩
  cases e with
  |normal=>
   obtain ⟨y,hy,hlt⟩:=h4
   obtain ⟨E3,f1,f2,f3⟩:=hy E'' a'' h3
   exact ⟨μ y,hlt,y,E3,rfl,f1.symm,(hx.trans h2).trans f2,f3⟩
  |exit id=>exact ⟨s',E'',rfl,hx.trans h2,h3,h4⟩
  |goto l=>exact ⟨s',E'',rfl,hx.trans h2,h3,h4⟩
  |ret=>exact ⟨s',E'',rfl,hx.trans h2,h3,h4⟩
  |panic ch=>exact ⟨s',E'',rfl,hx.trans h2,h3,h4⟩
  |outgrown=>exact ⟨s',E'',rfl,hx.trans h2,h3,h4⟩
 ·rintro e a' w' ⟨s',E',rfl,h2,h3,h4⟩
  exact ⟨s',E',rfl,e2.trans h2,h3,h4⟩
end
theorem fG {p:Nat→Bool}:∀ {a b:List AV},inL p a=true→inL p b=true→inL p (a++b)=true
 | [],_,_,h=>h
 |x::a,b,h,g=>by
  simp only [inL,Bool.and_eq_true,List.cons_append] at h ⊢
  exact ⟨h.1,fG h.2 g⟩
theorem cF {p:Nat→Bool}:∀ {es:List (List AV)},inE p es=true→inL p es.flatten=true
 | [],_=>by simp [inL]
 |e::es,h=>by
  simp only [inE,Bool.and_eq_true] at h
  rw [List.flatten_cons]
  exact fG h.1 (cF h.2)
end Go.AM
set_option linter.unusedVariables false
set_option linter.unusedSimpArgs false
namespace Go.AM
def QU (P:Program) (G:Nat→Option (List AV)) (f:FuncId) (args:List AV) (n sz:Nat) (full:Bool) (cs:List AV):Prop:=
 ∀ rows nb,rows nb=.none→dH P G f args rows [nb] ⟨.osl nb 0 0 n sz full,[(nb,.cells 0 cs)]⟩
theorem rA {P:Program} {G:Nat→Option (List AV)} {f:FuncId} {fn:Func} {c:Code} {args:List AV} {n sz:Nat} {full:Bool} {cs:List AV}
  (hG:∀ g cs,G g=some cs→inL aC cs=true) (hf:P.funcs[f]? =some fn) (hb:fn.body=some c) (hgo:eP P f=true) (hn:args.length≤fn.ntmps) (hargs:inL aC args=true) (hcs:inL aC cs=true)
  (hbody:AWp P G fn.ntmps 0 c (dR P fn fun v s=>∃ r ver,v=.osl r ver 0 n sz full∧s.row r=.cells ver cs) ⟨mkF (aH 0 args),[]⟩):QU P G f args n sz full cs:=by
 intro rows nb hnone
 refine ⟨hgo,by simp,fun E us i hE hus=>?_⟩
 have hEnb:E.rows nb=.none:=by rw [hE nb (by simp)];exact hnone
 let Ec:En:=⟨E.w,E.S,E.ρ,fun _=>.none⟩
 have agc:dX aC E Ec:=⟨rfl,fun _ h=>h,fun r hr=>(by cases hr),fun r hr=>(by cases hr)⟩
 have ic:Inv G Ec:=by
  refine ⟨fun r=>(by simp [RowOK,Ec]),fun r r' h=>(by cases h),i.sb,fun g cs hg=>?_⟩
  obtain ⟨vs,a1,a2,a3⟩:=i.glob g cs hg
  exact ⟨vs,a1,a2.agree agc (hG g cs hg),a3⟩
 have hlen:=hus.length
 have sim:Sim G fn.ntmps ⟨mkF (aH 0 args),[]⟩ Ec { tmps:=us.toArray++Array.replicate (fn.ntmps - us.toArray.size) undef,defers:=[] }:=by
  refine ⟨ic,rfl,by simp;omega,fun t=>?_,DefOK.nil⟩
  show Rel Ec ((mkF (aH 0 args)).getD t .undef) _
  rw [gA]
  simp only [Nat.zero_le,if_true,Nat.sub_zero]
  rw [List.getD_eq_getElem?_getD]
  cases hx:args[t]? with
  |none=>simp [Rel]
  |some x=>
   obtain ⟨v,h1,h2⟩:=hus.get hx
   have hlt:=(List.getElem?_eq_some_iff.1 h1).1
   have:(us.toArray++Array.replicate (fn.ntmps - us.toArray.size) undef).getD t undef=v:=by
    rw [Array.getD_eq_getD_getElem?,Array.getElem?_append,if_pos (by simpa using hlt)]
    simp only [List.getElem?_toArray,h1,Option.getD_some]
   rw [this]
   have hin:inR aC x=true:=by
    have:=jA hargs t
    rw [List.getD_eq_getElem?_getD,hx] at this
    simpa using this
   exact h2.agree agc hin
 refine calls_of_wp hf hb (wpIn_wide.1 (wpIn_mono (hbody Ec _ sim) ?_))
 rintro e a' w' ⟨s',Ec',rfl,xk,sim',q⟩
 have fin:∀ v,cR P fn s'=some v→(∃ r ver,v=.osl r ver 0 n sz full∧s'.row r=.cells ver cs)→
   ∃ u,(results fn a'.tmps).run P Ec'.w=.ok u Ec'.w∧∃ v E',Ending.returned u=.returned v∧Ec'.w=E'.w∧Rel E' (.osl nb 0 0 n sz full) v∧Ext E E'∧Inv G E'∧E'.rows=upd E.rows [(nb,.cells 0 cs)]:=by
  rintro v hv ⟨r,ver,rfl,hr⟩
  obtain ⟨u,hu,ru⟩:=iG (P:=P) sim' hv
  rw [← sim'.rows] at hr
  have hblk:∀ b,b<E.w.heap.size→Ec'.w.heap[b]? =E.w.heap[b]?∧(Ec'.S b→E.S b):=fun b hb=>xk.out b hb fun r hr=>by cases hr
  have hfresh:E.w.heap.size≤Ec'.ρ r:=by
   rcases xk.fresh r (by rw [hr];rfl) with ⟨h1,_⟩|h1
   ·cases h1
   ·exact h1
  have hu1:∀ q,q≠nb→upd E.rows [(nb,.cells 0 cs)] q=E.rows q:=fun q hq=>by rw [eE,if_neg hq]
  have hu2:upd E.rows [(nb,.cells 0 cs)] nb=.cells 0 cs:=by rw [eE,if_pos rfl]
  have x:Ext E ⟨Ec'.w,Ec'.S,fun q=>if q=nb then Ec'.ρ r else E.ρ q,upd E.rows [(nb,.cells 0 cs)]⟩:=by
   refine ⟨xk.os,xk.tape,xk.output,xk.sz,xk.sub,fun b hlt hl=>hblk b hlt,fun q hq=>?_,fun q ver cs hq=>?_,fun q hq=>?_,fun q hq=>?_⟩
   ·have hne:q≠nb:=fun e=>by rw [e,hEnb] at hq;cases hq
    simp only [hu1 q hne];exact hq
   ·have hne:q≠nb:=fun e=>by rw [e,hEnb] at hq;cases hq
    simp only [hu1 q hne,if_neg hne]
    refine .inr ⟨ver,cs,hq,Nat.le_refl _,fun _=>⟨trivial,fun cur e fz hcur=>⟨cur,e,?_,rfl⟩⟩⟩
    rw [(hblk _ (i.live (by rw [hq];rfl)).1).1]
    exact hcur
   ·have hne:q≠nb:=fun e=>by rw [e,hEnb] at hq;cases hq
    simp only [hu1 q hne,if_neg hne]
    exact .inr ⟨hq,trivial⟩
   ·by_cases hne:q=nb
    ·simp only [hne,if_true];exact .inr hfresh
    ·simp only [hu1 q hne] at hq
     simp only [if_neg hne]
     exact .inl ⟨hq,trivial⟩
  have agf:dX aC Ec' ⟨Ec'.w,Ec'.S,fun q=>if q=nb then Ec'.ρ r else E.ρ q,upd E.rows [(nb,.cells 0 cs)]⟩:=⟨rfl,fun _ h=>h,fun r hr=>(by cases hr),fun r hr=>(by cases hr)⟩
  refine ⟨u,hu,u,⟨Ec'.w,Ec'.S,fun q=>if q=nb then Ec'.ρ r else E.ρ q,upd E.rows [(nb,.cells 0 cs)]⟩,rfl,rfl,?_,x,⟨fun q=>?_,fun q q' h h' hne=>?_,sim'.inv.sb,fun g cs hg=>?_⟩,rfl⟩
  ·simp only [Rel] at ru ⊢
   refine ⟨ru.1,?_⟩
   have h2:=ru.2
   rw [hr] at h2
   simp only [hu2,if_true]
   exact ⟨Nat.le_refl _,fun _=>h2.2 rfl⟩
  ·by_cases hq:q=nb
   ·subst hq
    have h0:=sim'.inv.row r
    unfold RowOK at h0 ⊢
    rw [hr] at h0
    simp only [hu2,if_true]
    obtain ⟨cur,e,vs,a1,a2,a3,a4⟩:=h0
    exact ⟨cur,e,vs,a1,a2,a3.agree agf hcs,a4⟩
   ·cases hl:(E.rows q).live with
    |false=>
     unfold RowOK
     simp only [hu1 q hq]
     cases hqq:E.rows q with
     |cells=>rw [hqq] at hl;cases hl
     |map=>rw [hqq] at hl;cases hl
     |iter=>rw [hqq] at hl;cases hl
     |loop=>rw [hqq] at hl;cases hl
     |none=>trivial
     |dead=>trivial
    |true=>
     have hbk:=hblk _ (i.live hl).1
     exact RowOK.ext i x (by simp only [if_neg hq]) (hu1 q hq) (fun _=>hbk.1) hbk.2 (i.row q)
  ·by_cases hq:q=nb
   ·by_cases hq':q'=nb
    ·exact absurd (hq.trans hq'.symm) hne
    ·simp only [hu1 q' hq'] at h'
     simp only [if_pos hq,if_neg hq']
     have h1:=(i.live h').1
     have h2:E.w.heap.size≤Ec'.ρ r:=hfresh
     omega
   ·simp only [hu1 q hq] at h
    by_cases hq':q'=nb
    ·simp only [if_neg hq,if_pos hq']
     have h1:=(i.live h).1
     have h2:E.w.heap.size≤Ec'.ρ r:=hfresh
     omega
    ·simp only [hu1 q' hq'] at h'
     simp only [if_neg hq,if_neg hq']
     exact i.inj q q' h h' hne
  ·obtain ⟨vs,a1,a2,a3⟩:=sim'.inv.glob g cs hg
   exact ⟨vs,a1,a2.agree agf (hG g cs hg),a3⟩
 cases e with
 |normal=>
  obtain ⟨v,h1,h2⟩:=q
  obtain ⟨u,h3,h4⟩:=fin v h1 h2
  exact ⟨sim'.df,u,h3,h4⟩
 |ret=>
  obtain ⟨v,h1,h2⟩:=q
  obtain ⟨u,h3,h4⟩:=fin v h1 h2
  exact ⟨sim'.df,u,h3,h4⟩
 |exit id=>exact q.elim
 |goto l=>exact q.elim
 |panic ch=>exact q.elim
 |outgrown=>exact q.elim
end Go.AM
set_option linter.unusedVariables false
set_option linter.unusedSimpArgs false
namespace Go.AM
def jX (fp:List Nat):Nat→List ARow→List ARow
 |_,[]=>[]
 |k,x::xs=>(if fp.contains k=true then .dead else x)::jX fp (k+1) xs
theorem jV {s:AS} {fp:List Nat}:∀ (k:Nat) (xs:List ARow),(∀ i,fp.contains (k+i)=true→i<xs.length→xs.getD i .none≠.none)→O9 s fp k xs (jX fp k xs)
 |_,[],_=>trivial
 |k,x::xs,h=>by
  refine ⟨?_,jV (k+1) xs fun i hi hl=>?_⟩
  ·by_cases hk:fp.contains k=true
   ·rw [if_pos hk]
    exact .inl ⟨by simpa using hk,rfl,by simpa using h 0 (by simpa using hk) (by simp)⟩
   ·rw [if_neg hk]
    exact .inr ⟨.inl (by simpa using hk),.inl rfl⟩
  ·have:=h (i+1) (by rw [show k+(i+1)=k+1+i by omega];exact hi) (by simpa using hl)
   simpa using this
theorem jW {s:AS} {fp:List Nat}:∀ {l:List (Nat × AV)},kS l s.get→cS s fp l
 | [],_=>trivial
 |p::l,h=>⟨.inl h.1.symm,jW h.2⟩
section
variable [Rnd] {G:Nat→Option (List AV)} {n:Nat} {s:AS}
theorem UU {t r ver m sz:Nat} {full:Bool} {es:List (List AV)} (l:List (Nat × AV)) (hG:∀ g cs,G g=some cs→inL aC cs=true) {cs:List AV} (hv:s.get t=.osl r ver 0 m sz full) (hr:s.row r=.cells ver cs) (hc:cs.take (m*sz)=es.flatten) (hm:es.length=m) (hsz:∀ e∈es,e.length=sz)
  (ht:inE aC es=true) (hl:kS l s.get) (hln:∀ p∈l,inR aC p.2=true):Ref G n 0 s ⟨mkF ((t,.sl false es)::l),[]⟩:=by
 have hlt:r<s.h.length:=by
  rcases Nat.lt_or_ge r s.h.length with h|h
  ·exact h
  ·have:s.row r=.none:=by show s.h.getD r .none=.none;rw [List.getD_eq_getElem?_getD,List.getElem?_eq_none h];rfl
   rw [this] at hr;cases hr
 refine Ref.trans (dD [r] ((t,.sl false es)::l) (jX [r] 0 s.h) (by simpa using hlt) ⟨.inr ?_,jW hl⟩ (jV 0 s.h fun i hi _=>?_)) (JX 0 (Nat.le_refl _) hG ?_ rfl)
 ·rw [hv]
  exact .osl (cs:=cs) (by simp) (by simp [aT,hr]) hm hsz (by rw [List.drop_zero,hc]) ht
 ·have hi:i=r:=by simpa using hi
  subst hi
  show s.row i≠.none
  rw [hr];simp
 ·intro p hp
  rcases List.mem_cons.1 hp with rfl|hp
  ·simp only [inR];exact pN (p:=aC) (fun r hr=>by cases hr) ht
  ·exact jT (p:=aC) (fun r hr=>by cases hr) (hln p hp)
end
section
variable [Rnd] {P:Program} {G:Nat→Option (List AV)} {n k:Nat} {Q:Exit→AS→Prop} {s:AS}
theorem jD {c:Code} (h:AWp P G n k c (fun e s=>∃ s',Ref G n k s s'∧Q e s') s):AWp P G n k c Q s:=fun E a i=>by
 refine wpIn_mono (h E a i) ?_
 rintro e a' w' ⟨s1,E1,rfl,h2,h3,s2,h4,h5⟩
 obtain ⟨E2,e1,e2,e3⟩:=h4 E1 a' h3
 exact ⟨s2,E2,e1.symm,h2.trans e2,e3,h5⟩
end
section
variable {P:Program} {G:Nat→Option (List AV)} {n:Nat} {K:Option Acc→AS→Prop} {d:Option Tmp} {rest:List POp} {m:Option Acc} {fp:List Nat} {s:AS} {t u:TypeId} {sz by':Nat} {x:AV} {rows:Nat→ARow} {nb mm:Nat} {new:List AV}
end
theorem hU {rows:Nat→ARow} {fp:List Nat}:∀ (l:List AV),j8 rows fp l l
 | []=>trivial
 |x::l=>⟨.inl rfl,hU l⟩
theorem fQ {rows:Nat→ARow} {fp:List Nat}:∀ {a b c d:List AV},j8 rows fp a b→j8 rows fp c d→j8 rows fp (a++c) (b++d)
 | [],[],_,_,_,h=>h
 |_::_,_::_,_,_,h,g=>⟨h.1,fQ h.2 g⟩
 | [],_::_,_,_,h,_=>h.elim
 |_::_,[],_,_,h,_=>h.elim
end Go.AM
set_option linter.unusedVariables false
set_option linter.unusedSimpArgs false
namespace Go.AM
def rv (r v sz:Nat) (app:List (List AV)):AV:=if app=[] then .rsv r else .osl r v 0 app.length sz false
def rvR (v:Nat) (app:List (List AV)):ARow:=if app=[] then .none else .cells v app.flatten
theorem dS {r v sz:Nat}:rv r v sz []=.rsv r:=rfl
theorem dM {v:Nat}:rvR v []=.none:=rfl
theorem cH {p:Nat→Bool} {r v sz:Nat} {app:List (List AV)} (h:p r=true):inR p (rv r v sz app)=true:=by
 unfold rv;split<;>simp [inR,h]
theorem bQ {p:Nat→Bool} {v:Nat} {app:List (List AV)} (h:inE p app=true):aG p (rvR v app)=true:=by
 unfold rvR
 split
 ·rfl
 ·exact cF h
section
variable {P:Program} {G:Nat→Option (List AV)} {n k:Nat} {K:Option Acc→AS→Prop} {d:Option Tmp} {rest:List POp} {m:Option Acc} {fp:List Nat} {s:AS} {t u:TypeId} {sz by':Nat} {x:AV} {rows:Nat→ARow} {nb mm:Nat} {e:List AV}
theorem O4 {r v:Nat} {app:List (List AV)} {et:TypeId} (hu:P.underlying t=some (.slice et)) (hr:rows r=rvR v app):r7 P t (rv r v sz app) rows=some (.int .i64 app.length):=by
 unfold rv
 unfold rvR at hr
 by_cases ha:app=[]
 ·rw [if_pos ha];rw [ha];simp [r7,hu]
 ·rw [if_neg ha] at hr ⊢;simp [r7,hu,aT,hr]
theorem b8 {r v v':Nat} {app es:List (List AV)} (ht:rY P t u=some (sz,by')) (hr:rows r=rvR v app) (hv:v'=if app=[] then 0 else v+1) (hsz:∀ e∈app,e.length=sz) (hs:cJ sz x rows=some (es.length,es.flatten)) (hne:es≠[]) (hb:(app.length+es.length)*(by'+1)≤140737488355328)
  (hk:aY P G n K rest (adv m fp [r]) ((s.wr [(r,rvR v' (app++es))]).put d (rv r v' sz (app++es)))):bU P G n K d rest m fp s (dN P t u (rv r v sz app) x rows nb):=by
 have hl:es.length≠0:=by simpa using hne
 have hne2:app++es≠[]:=by simp [hne]
 simp only [rv,rvR,if_neg hne2] at hk
 by_cases ha:app=[]
 ·subst ha
  rw [if_pos rfl] at hv
  subst hv
  rw [dS,mT ht _ hs]
  simp only []
  rw [if_pos (by simpa using hb),if_neg hl]
  have hr':rows r=.none:=hr
  rw [hr']
  show aY P G n K rest _ _
  simpa using hk
 ·rw [if_neg ha] at hv
  subst hv
  have hrv:rv r v sz app=.osl r v 0 app.length sz false:=if_neg ha
  have hr':rows r=.cells v app.flatten:=by rw [hr];exact if_neg ha
  rw [hrv]
  refine f7 (mm:=es.length) (new:=es.flatten) (cs:=app.flatten) ht hr' (cG hsz) hs hb ?_
  rw [← List.flatten_append,← List.length_append]
  exact hk
theorem NS {r v:Nat} {app:List (List AV)} (hap:app=[]) (ht:rY P t u=some (sz,by')) (hs:cJ sz x rows=some (0,[]))
  (hk:aY P G n K rest (adv m fp []) (s.put d (rv r v sz app))):bU P G n K d rest m fp s (dN P t u (rv r v sz app) x rows nb):=by
 subst hap
 rw [dS] at hk ⊢
 rw [mT ht _ hs]
 simp only []
 rw [if_pos (by simp),if_pos trivial]
 exact hk
theorem fB {r v:Nat} {fp:List Nat} {app:List (List AV)} (hr:rows r=rvR v app) (hf:r∈fp) (hsz:∀ e∈app,e.length=sz) (ht:inE aC app=true):Lend rows fp (rv r v sz app) (.sl false app):=by
 by_cases ha:app=[]
 ·subst ha;exact .rsv
 ·have hrv:rv r v sz app=.osl r v 0 app.length sz false:=if_neg ha
  have hr':rows r=.cells v app.flatten:=by rw [hr];exact if_neg ha
  rw [hrv]
  exact .osl (cs:=app.flatten) hf (by simp [aT,hr']) rfl hsz (by rw [List.drop_zero,List.take_of_length_le (by rw [cG hsz];exact Nat.le_refl _)]) ht
end
theorem Sim.only [Rnd] {G:Nat→Option (List AV)} {n:Nat} {s:AS} {h':List ARow} {E:En} {a:Act} (i:Sim G n s E a) (q:Nat→Bool) (hh:∀ r,AS.row ⟨s.fr,h'⟩ r=if q r=true then s.row r else .none) (hg:∀ g cs,G g=some cs→inL q cs=true) (h1:inL q s.fr=true) (h2:∀ r,q r=true→aG q (s.row r)=true):
  ∃ E',E'.w=E.w∧(∀ k,(∀ r,r<k→q r=true)→ExtK k E E')∧Sim G n ⟨s.fr,h'⟩ E' a:=by
 let E':En:=⟨E.w,E.S,E.ρ,fun r=>if q r=true then E.rows r else .none⟩
 have hrow:∀ r,q r=true→E'.rows r=E.rows r:=fun r hr=>by simp [E',hr]
 have hnone:∀ r,¬ q r=true→E'.rows r=.none:=fun r hr=>by simp [E',hr]
 have g:dX q E E':=⟨rfl,fun _ h=>h,fun r hr=>.inl (hrow r hr),fun r _ _=>rfl⟩
 have hlive:∀ r,(E'.rows r).live=true→q r=true∧(E.rows r).live=true:=fun r hr=>by
  by_cases hm:q r=true
  ·rw [hrow r hm] at hr;exact ⟨hm,hr⟩
  ·rw [hnone r hm] at hr;cases hr
 refine ⟨E',rfl,fun k hk=>⟨rfl,rfl,rfl,Nat.le_refl _,fun _ h=>h,fun _ _ _=>⟨rfl,id⟩,fun r hr h=>by rw [hrow r (hk r hr)];exact h,
  fun r hr ver cs h=>.inr ⟨ver,cs,by rw [hrow r (hk r hr)];exact h,Nat.le_refl _,fun _=>⟨rfl,fun cur e fz hc=>⟨cur,e,hc,rfl⟩⟩⟩,
  fun r hr h=>.inr ⟨by rw [hrow r (hk r hr)];exact h,rfl⟩,fun r hr=>.inl ⟨(hlive r hr).2,rfl⟩⟩,?_⟩
 refine ⟨⟨fun r=>?_,fun r r' h h' hne=>i.inv.inj r r' (hlive r h).2 (hlive r' h').2 hne,i.inv.sb,fun q cs hq=>?_⟩,?_,i.sz,fun t=>(i.tm t).agree g (jA h1 t),DefOK.of (E:=E) (E':=E') (Nat.le_refl _) (fun _ _ _=>⟨rfl,id⟩) (fun r hr=>.inl ⟨(hlive r hr).2,rfl⟩) i.df⟩
 ·by_cases hm:q r=true
  ·have h0:=i.inv.row r
   unfold RowOK at h0 ⊢
   rw [hrow r hm]
   have hb:aG q (E.rows r)=true:=by rw [i.rows];exact h2 r hm
   cases hrr:E.rows r with
   |none=>trivial
   |dead=>trivial
   |cells ver cs=>
    rw [hrr] at h0 hb
    obtain ⟨cur,e,vs,a1,a2,a3,a4⟩:=h0
    exact ⟨cur,e,vs,a1,a2,a3.agree g hb,a4⟩
   |map ks vs=>
    rw [hrr] at h0 hb
    simp only [aG,Bool.and_eq_true] at hb
    obtain ⟨es,clock,a1,a2,a3,a4,a5⟩:=h0
    exact ⟨es,clock,a1,a2,a3,a4.agree g hb.1,a5.agree g hb.2⟩
   |iter ks vs l j=>
    rw [hrr] at h0 hb
    simp only [aG,Bool.and_eq_true] at hb
    obtain ⟨mb,es,clock,since,seen,a1,a2,a3,a4,a5,a6,a7,a8,a9⟩:=h0
    exact ⟨mb,es,clock,since,seen,a1,a2,a3,a4,a5,a6,a7.agree g hb.1,a8.agree g hb.2,a9⟩
   |loop st pend fr ps asg body=>
    rw [hrr] at h0 hb
    obtain ⟨fn,tm,D,a1,a2,a3⟩:=h0
    exact ⟨fn,tm,D,a1,a2,a3.agree g hb⟩
  ·unfold RowOK
   rw [hnone r hm];trivial
 ·obtain ⟨vs,a1,a2,a3⟩:=i.inv.glob q cs hq
  exact ⟨vs,a1,a2.agree g (hg q cs hq),a3⟩
 ·funext r
  rw [hh r,← i.rows]
def ARow.isN:ARow→Bool
 | .none=>true
 |_=>false
theorem H9 {x:ARow}:x.isN=true↔x=.none:=by cases x<;>simp [ARow.isN]
def ToH (s:AS) (fp:List Nat) (q:Nat→Bool):Nat→List ARow→List ARow→Prop
 |_,[],[]=>True
 |k,_::xs,[]=>q k=false∧ToH s fp q (k+1) xs []
 |k,[],y::ys=>y=.none∧ToH s fp q (k+1) [] ys
 |k,x::xs,y::ys=>((q k=false∧y=.none)∨(q k=true∧aG q y=true∧iU s.row fp k x y))∧ToH s fp q (k+1) xs ys
theorem sB {s:AS} {fp:List Nat} {q:Nat→Bool}:∀ (k:Nat) (xs ys:List ARow),ToH s fp q k xs ys→∀ i,(q (k+i)=true→aG q (ys.getD i .none)=true∧((xs.getD i .none=.none∧ys.getD i .none=.none)∨iU s.row fp (k+i) (xs.getD i .none) (ys.getD i .none)))∧(q (k+i)=false→ys.getD i .none=.none)
 |_,[],[],_,i=>by simp [aG]
 |k,x::xs,[],h,i=>by
  simp only [ToH] at h
  obtain ⟨h1,h2⟩:=h
  cases i with
  |zero=>simp [h1]
  |succ i=>
   have:=sB (k+1) xs [] h2 i
   rw [show k+1+i=k+(i+1) by omega] at this
   simpa using this
 |k,[],y::ys,h,i=>by
  simp only [ToH] at h
  obtain ⟨rfl,h2⟩:=h
  cases i with
  |zero=>simp [aG]
  |succ i=>
   have:=sB (k+1) [] ys h2 i
   rw [show k+1+i=k+(i+1) by omega] at this
   simpa using this
 |k,x::xs,y::ys,h,i=>by
  simp only [ToH] at h
  obtain ⟨h1,h2⟩:=h
  cases i with
  |zero=>
   simp only [List.getD_cons_zero,Nat.add_zero]
   rcases h1 with ⟨a,b⟩|⟨a,b,c⟩
   ·rw [a,b];simp
   ·rw [a];simp [b,c]
  |succ i=>
   have:=sB (k+1) xs ys h2 i
   rw [show k+1+i=k+(i+1) by omega] at this
   simpa using this
section
variable [Rnd] {G:Nat→Option (List AV)} {n k:Nat} {s:AS}
theorem bN (fp:List Nat) (q:Nat→Bool) {l:List (Nat × AV)} {h:List ARow} (hG:∀ g cs,G g=some cs→inL aC cs=true) (hk:∀ r,r<k→q r=true) (hl:cS s fp l) (hq:(l.all fun p=>inR q p.2)=true) (hh:ToH s fp q 0 s.h h):Ref G n k s ⟨mkF l,h⟩:=fun E a i=>by
 have hget:∀ t,AS.get ⟨mkF l,[]⟩ t=.undef∨Frz s.row fp (s.get t) (AS.get ⟨mkF l,[]⟩ t):=by
  intro t
  show (mkF l).getD t .undef=.undef∨Frz s.row fp (s.get t) ((mkF l).getD t .undef)
  clear hq
  induction l with
  |nil=>exact .inl (g7 t)
  |cons p l ih=>
   obtain ⟨t',v⟩:=p
   rw [fM]
   by_cases e:t=t'
   ·subst e;rw [if_pos rfl];exact .inr hl.1
   ·rw [if_neg e];exact ih hl.2
 have hg:=sB 0 s.h h hh
 let R1:Nat→ARow:=fun r=>if q r=true then AS.row ⟨[],h⟩ r else if (fp.contains r&& !(s.row r).isN)=true then .dead else s.row r
 let H1:List ARow:=(List.range (max s.h.length h.length)).map R1
 have hR1:∀ r,AS.row ⟨mkF l,H1⟩ r=R1 r:=by
  intro r
  show H1.getD r .none=R1 r
  rw [List.getD_eq_getElem?_getD,List.getElem?_map]
  rcases Nat.lt_or_ge r (max s.h.length h.length) with hlt|hge
  ·rw [List.getElem?_range hlt];rfl
  ·rw [List.getElem?_eq_none (by simpa using hge)]
   have h1:s.row r=.none:=by show s.h.getD r .none=.none;rw [List.getD_eq_getElem?_getD,List.getElem?_eq_none (by omega)];rfl
   have h2:h.getD r .none=.none:=by rw [List.getD_eq_getElem?_getD,List.getElem?_eq_none (by omega)];rfl
   show ARow.none=if q r=true then h.getD r .none else if (fp.contains r&& !(s.row r).isN)=true then .dead else s.row r
   rw [h1,h2];simp [ARow.isN]
 obtain ⟨E1,e1,e2,e3⟩:=i.freeze (k:=k) (s':=⟨mkF l,H1⟩) fp (fun t=>hget t) (fun r=>by
  rw [hR1 r]
  show iU s.row fp r (s.row r) (if q r=true then h.getD r .none else if (fp.contains r&& !(s.row r).isN)=true then .dead else s.row r)
  have:=hg r
  rw [Nat.zero_add] at this
  by_cases hqr:q r=true
  ·rw [if_pos hqr]
   rcases (this.1 hqr).2 with ⟨a1,a2⟩|a1
   ·have a1:s.row r=.none:=a1
    rw [a2,a1]
    exact .inr ⟨.inr rfl,.inl rfl⟩
   ·exact a1
  ·rw [if_neg hqr]
   have hc':(fp.contains r&& !(s.row r).isN)=true↔r∈fp∧s.row r≠.none:=by
    rw [Bool.and_eq_true,Bool.not_eq_true',← Bool.not_eq_true,H9];simp
   by_cases hc:(fp.contains r&& !(s.row r).isN)=true
   ·rw [if_pos hc];exact .inl ⟨(hc'.1 hc).1,rfl,(hc'.1 hc).2⟩
   ·rw [if_neg hc]
    refine .inr ⟨?_,.inl rfl⟩
    by_cases hm:r∈fp
    ·exact .inr (H9.1 (by
      cases hb:(s.row r).isN with
      |true=>rfl
      |false=>exact absurd (by simp [hm,hb]) hc))
    ·exact .inl hm)
 obtain ⟨E2,f1,f2,f3⟩:=e3.only (h':=h) q (fun r=>by
  rw [hR1 r]
  show h.getD r .none=if q r=true then (if q r=true then h.getD r .none else if (fp.contains r&& !(s.row r).isN)=true then .dead else s.row r) else .none
  by_cases hqr:q r=true
  ·rw [if_pos hqr,if_pos hqr]
  ·rw [if_neg hqr]
   have:=(hg r).2
   rw [Nat.zero_add] at this
   exact this (by simpa using hqr)) (fun g cs h=>cC (p:=aC) (fun r hr=>by cases hr) (hG g cs h)) (sG fun p hp=>by simpa using List.all_eq_true.1 hq p hp) (fun r hqr=>by
  rw [hR1 r]
  show aG q (if q r=true then h.getD r .none else if (fp.contains r&& !(s.row r).isN)=true then .dead else s.row r)=true
  rw [if_pos hqr]
  have:=(hg r).1
  rw [Nat.zero_add] at this
  exact (this hqr).1)
 exact ⟨E2,f1.trans e1,e2.trans (f2 k hk),f3⟩
end
def kp (l:List Nat):Nat→Bool:=fun r=>l.contains r
end Go.AM
