import Derived.Test.YtggflhbigolakaaGreatDoorAA
import Derived.Orders
import Derived.OrdersIn
set_option linter.unusedVariables false
set_option linter.unusedSimpArgs false
namespace Go.AM
abbrev nA:=Option Tmp × Op × Option (Option Tmp × Bool)
def fQ (ops:Array Oper):List nA:=ops.toList.map fun o=>(o.dst,o.op,o.guard.map fun p=>((ops[p.1]?).bind (·.dst),p.2))
def HJ (g:Option (Option Tmp × Bool)) (s:AS):Option Bool:=
 match g with
 |none=>some true
 |some (some d,want)=>match s.get d with
  | .bool b=>some (b==want)
  | .tup []=>some false
  |_=>none
 |some (none,_)=>none
abbrev eV:=List (List Nat × List Nat)
def lM:Option eV->List Nat->List Nat->Option eV
 |none,_,_=>none
 |some a,f,w=>some ((f,w)::a)
def cO:AV->List Nat
 | .ptr r _ _=>[r]
 | .osl r _ _ _ _ _=>[r]
 | .rsl r _ _ _ _=>[r]
 | .rsv r=>[r]
 | .omp r=>[r]
 | .yld r=>[r]
 |_=>[]
def RV (o:Op) (ev:Operand->AV):List Nat:=
 match o with
 | .load _ x=>cO (ev x)
 | .nilCheck x=>cO (ev x)
 | .fieldAddr _ x _=>cO (ev x)
 | .store _ x _=>cO (ev x)
 | .binOp _ _ x _ _=>cO (ev x)
 | .slice _ x _ _ _=>cO (ev x)
 | .indexAddr _ x _=>cO (ev x)
 | .lookup _ x _ _=>cO (ev x)
 | .mapUpdate _ x _ _=>cO (ev x)
 | .insert _ x _ _=>cO (ev x)
 | .entry x=>cO (ev x)
 | .call c=>match c.callee with
  | .builtin _=>(c.args.toList.map ev).flatMap cO
  |_=>[]
 |_=>[]
def OpC (P:Program) (G:Nat->Option (List AV)) (o:Op) (ev:Operand->AV) (rows:Nat->ARow) (nb:Nat) (fp:List Nat) (eff:eL):Prop:=
 match fX o ev with
 |some (f,args)=>c8 P G f args rows fp eff
 |none=>match lO o ev with
  |some (r,args)=>wI P G r args rows fp eff
  |none=>pT P o ev rows nb=some eff/\fp=RV o ev
theorem OpC.astep {P:Program} {G:Nat->Option (List AV)} {o:Op} {ev:Operand->AV} {rows:Nat->ARow} {nb:Nat} {fp:List Nat} {eff:eL} (h:OpC P G o ev rows nb fp eff):EQ P G o ev rows nb eff:=by
 unfold OpC at h
 unfold EQ
 split at h
 .rename_i hc;rw [hc];exact ⟨_,h⟩
 .rename_i hc
  rw [hc]
  split at h
  .rename_i hy;rw [hy];exact ⟨_,h⟩
  .rename_i hy;rw [hy];exact h.1
def MA (P:Program) (G:Nat->Option (List AV)) (o:Op) (s:AS) (m:Option eV) (KE:eL->Option eV->Prop):Prop:=
 match o with
 | .next x false=>m=none/\∃ r ks vs left last,d8 G s.get x=.ptr r 0 0/\s.row r=.iter ks vs left last/\(left=[]->KE ⟨.tup [.bool false],[]⟩ none)/\
   ∀ j k v,j∈left->ks[j]? =some k->vs[j]? =some v->KE ⟨.tup [.bool true,k,v],[(r,.iter ks vs (left.erase j) j)]⟩ none
 |o=>∃ eff fp,OpC P G o (d8 G s.get) s.row s.h.length fp eff/\KE eff (lM m fp (eff.wr.map (·.1)))
def bG (P:Program) (G:Nat->Option (List AV)) (n:Nat) (K:Option eV->AS->Prop):List nA->Option eV->AS->Prop
 | [],m,s=>K m s
 |p::rest,m,s=>jO n p.1/\
  match HJ p.2.2 s with
  |some true=>MA P G p.2.1 s m fun eff m'=>bG P G n K rest m' (s.apply p.1 eff)
  |some false=>bG P G n K rest (lM m [] []) (s.put p.1 (.tup []))
  |none=>False
theorem oS (ops:Array Oper) (o:Oper) (s:AS):kP ops o s=HJ (o.guard.map fun p=>((ops[p.1]?).bind (·.dst),p.2)) s:=by
 unfold kP HJ
 cases o.guard with
 |none=>rfl
 |some p=>
  obtain ⟨j,w⟩:=p
  simp only [dv]
  cases (ops[j]?).bind (·.dst)<;>rfl
theorem QO {P:Program} {G:Nat->Option (List AV)} {op:Op} {s:AS} {KE:eL->Option eV->Prop} {K':eL->Prop} (h:MA P G op s none KE) (hk:∀ e,KE e none->K' e):I3 P G op s K':=by
 unfold MA at h
 split at h
 .obtain ⟨_,r,ks,vs,left,last,a1,a2,a3,a4⟩:=h
  exact ⟨r,ks,vs,left,last,a1,a2,fun h=>hk _ (a3 h),fun j k v h1 h2 h3=>hk _ (a4 j k v h1 h2 h3)⟩
 .rename_i hne
  obtain ⟨eff,fp,a1,a2⟩:=h
  unfold I3
  split
  .rename_i x;exact absurd rfl (hne x)
  .exact ⟨eff,a1.astep,hk _ a2⟩
theorem nJ {P:Program} {G:Nat->Option (List AV)} {n:Nat} {ops:Array Oper} {K:AS->Prop}:∀ (l:List Oper) (s:AS),bG P G n (fun _=>K) (l.map fun o=>(o.dst,o.op,o.guard.map fun p=>((ops[p.1]?).bind (·.dst),p.2))) none s->rgn P G n ops K l s
 | [],s,h=>h
 |o::rest,s,h=>by
  simp only [ay,bG] at h
  simp only [rgn,oS]
  refine ⟨h.1,?_⟩
  have h2:=h.2
  split
  .rename_i hw
   rw [hw] at h2
   exact QO h2 fun e he=>nJ rest _ he
  .rename_i hw
   rw [hw] at h2
   exact nJ rest _ h2
  .rename_i hw
   rw [hw] at h2
   exact h2
section
variable [i6] {P:Program} {G:Nat->Option (List AV)} {n k:Nat} {Q:Exit->AS->Prop} {s:AS}
theorem t3 {id:Nat} {ops:Array Oper} (h:bG P G n (fun _=>Q .normal) (fQ ops) none s):cG P G n k (.region id ops false) Q s:=ND (nJ _ _ h)
def Cont (P:Program) (G:Nat->Option (List AV)) (n k:Nat) (y:Code) (Q:Exit->AS->Prop) (K:AS->Prop):Prop:=∀ s,cG P G n k y Q s->K s
theorem Cont.go {y:Code} {K:AS->Prop} (c:Cont P G n k y Q K) (h:cG P G n k y Q s):K s:=c s h
def Arm (P:Program) (G:Nat->Option (List AV)) (n k:Nat) (y:Code) (Q:Exit->AS->Prop) (s:AS) (X:Prop):Prop:=cG P G n k y Q s->X
theorem Arm.go {y:Code} {X:Prop} (c:Arm P G n k y Q s X) (h:cG P G n k y Q s):X:=c h
def lX (X Y:Prop):AV->Prop
 | .bool b=>(b=true->X)/\(b=false->Y)
 | .anyb=>X/\Y
 |_=>False
theorem NG {c:Operand} {x y:Code} (h:∀ X Y:Prop,Arm P G n k x Q s X->Arm P G n k y Q s Y->lX X Y (d8 G s.get c)):cG P G n k (.cond c x y) Q s:=by
 have h1:=h _ _ id id
 unfold lX at h1
 split at h1
 .rename_i b hb
  exact t5 hb h1.1 h1.2
 .rename_i hb
  exact n7 hb h1.1 h1.2
 .exact h1.elim
theorem cR {x y:Code} (h:∀ K:AS->Prop,Cont P G n k y Q K->cG P G n k x (mY K Q) s):cG P G n k (.seq x y) Q s:=GX (h _ fun _ h=>h)
end
section
variable {G:Nat->Option (List AV)} {k:Nat} {s:AS}
def Again {α:Type} (G:Nat->Option (List AV)) (k:Nat) (fr: α->List (Nat × AV)) (h: α->List ARow) (μ: α->Nat) (x: α) (K:AS->Prop):Prop:=∀ s' y,Weak G k s' (fr y) (h y)->μ y< μ x->K s'
theorem Again.go {α:Type} {fr: α->List (Nat × AV)} {h: α->List ARow} {μ: α->Nat} {x: α} {K:AS->Prop} (c:Again G k fr h μ x K) (y: α) (hw:Weak G k s (fr y) (h y)) (hm: μ y< μ x):K s:=c s y hw hm
end
section
variable [i6] {P:Program} {G:Nat->Option (List AV)} {n k:Nat} {Q:Exit->AS->Prop} {s:AS}
theorem r9 {α:Type} {c:Code} (fr: α->List (Nat × AV)) (h: α->List ARow) (μ: α->Nat) (x₀: α) (w₀:Weak G k s (fr x₀) (h x₀))
  (round:∀ x,∀ K:AS->Prop,Again G k fr h μ x K->cG P G n k c (mY K Q) ⟨eJ (fr x),h x⟩):cG P G n k (.loop c) Q s:=
 VY fr h μ x₀ w₀ fun x=>round x _ fun s' y h1 h2=>⟨y,h1,h2⟩
end
def bZ (P:Program) (G:Nat->Option (List AV)) (n:Nat) (K:Option eV->AS->Prop) (d:Option Tmp) (rest:List nA) (m:Option eV) (fp:List Nat) (s:AS):Option AV->Prop
 |some v=>bG P G n K rest (lM m fp []) (s.put d v)
 |none=>False
def bW (P:Program) (G:Nat->Option (List AV)) (n:Nat) (K:Option eV->AS->Prop) (d:Option Tmp) (rest:List nA) (m:Option eV) (fp:List Nat) (s:AS):Option eL->Prop
 |some e=>bG P G n K rest (lM m fp (e.wr.map (·.1))) ((s.wr e.wr).put d e.val)
 |none=>False
def bI (P:Program) (G:Nat->Option (List AV)) (n:Nat) (K:Option eV->AS->Prop) (d:Option Tmp) (rest:List nA) (m:Option eV) (s:AS) (f:FuncId) (args:List AV):Prop:=
 ∃ eff fp,c8 P G f args s.row fp eff/\bG P G n K rest (lM m fp (eff.wr.map (·.1))) ((s.wr eff.wr).put d eff.val)
def ZV (P:Program) (G:Nat->Option (List AV)) (n:Nat) (K:Option eV->AS->Prop) (d:Option Tmp) (rest:List nA) (m:Option eV) (s:AS) (r:Nat) (args:List AV):Prop:=
 ∃ eff fp,wI P G r args s.row fp eff/\bG P G n K rest (lM m fp (eff.wr.map (·.1))) ((s.wr eff.wr).put d eff.val)
def bL (P:Program) (G:Nat->Option (List AV)) (n:Nat) (K:Option eV->AS->Prop) (d:Option Tmp) (rest:List nA) (m:Option eV) (s:AS) (args:List AV):AV->Prop
 | .fn (.func f) first cap=>bI P G n K d rest m s f (first++args++cap)
 | .yld r=>ZV P G n K d rest m s r args
 |_=>False
def bN (P:Program) (G:Nat->Option (List AV)) (n:Nat) (K:Option eV->AS->Prop) (d:Option Tmp) (rest:List nA) (m:Option eV) (s:AS) (x:AV):Prop:=
 m=none/\∃ r ks vs left last,x=.ptr r 0 0/\s.row r=.iter ks vs left last/\(left=[]->bG P G n K rest none (s.put d (.tup [.bool false])))/\
   ∀ j k v,j∈left->ks[j]? =some k->vs[j]? =some v->bG P G n K rest none ((s.wr [(r,.iter ks vs (left.erase j) j)]).put d (.tup [.bool true,k,v]))
def aV (P:Program) (G:Nat->Option (List AV)) (n:Nat) (K:Option eV->AS->Prop) (d:Option Tmp) (rest:List nA) (m:Option eV) (s:AS) (op:Op):Prop:=MA P G op s m fun eff m'=>bG P G n K rest m' (s.apply d eff)
section
variable {P:Program} {G:Nat->Option (List AV)} {n:Nat} {K:Option eV->AS->Prop} {d:Option Tmp} {rest:List nA} {m:Option eV} {fp:List Nat} {s:AS}
theorem IR:bG P G n K [] m s=K m s:=rfl
theorem CK {op:Op}:bG P G n K ((d,op,none)::rest) m s=(jO n d/\aV P G n K d rest m s op):=rfl
def aQ (P:Program) (G:Nat->Option (List AV)) (n:Nat) (K:Option eV->AS->Prop) (d:Option Tmp) (rest:List nA) (m:Option eV) (s:AS) (op:Op) (want:Bool):AV->Prop
 | .bool b=>if b=want then aV P G n K d rest m s op else bG P G n K rest (lM m [] []) (s.put d (.tup []))
 | .tup []=>bG P G n K rest (lM m [] []) (s.put d (.tup []))
 |_=>False
theorem yC {op:Op} {g:Tmp} {want:Bool}:bG P G n K ((d,op,some (some g,want))::rest) m s=(jO n d/\aQ P G n K d rest m s op want (s.get g)):=by
 simp only [bG,HJ,aQ,aV]
 congr 1
 cases hg:s.get g<;>try rfl
 case bool b=>cases b<;>cases want<;>rfl
 case tup vs=>cases vs<;>rfl
theorem vN {op:Op} {want:Bool}:aQ P G n K d rest m s op want (.tup [])=bG P G n K rest (lM m [] []) (s.put d (.tup [])):=rfl
theorem A8 {t:Nat}:jO n (some t)=(t<n):=rfl
theorem A9:jO n none=True:=rfl
theorem C7 {v:AV}:bZ P G n K d rest m fp s (some v)=bG P G n K rest (lM m fp []) (s.put d v):=rfl
theorem C8:bZ P G n K d rest m fp s none=False:=rfl
theorem HN {c:Prop} [Decidable c] {x y:Option AV}:bZ P G n K d rest m fp s (if c then x else y)=((c->bZ P G n K d rest m fp s x)/\(¬ c->bZ P G n K d rest m fp s y)):=by
 by_cases h:c<;>simp [h]
theorem DU {v:AV} {wr:List (Nat × ARow)}:bW P G n K d rest m fp s (some ⟨v,wr⟩)=bG P G n K rest (lM m fp (wr.map (·.1))) ((s.wr wr).put d v):=rfl
theorem DV:bW P G n K d rest m fp s none=False:=rfl
theorem KJ {c:Prop} [Decidable c] {x y:Option eL}:bW P G n K d rest m fp s (if c then x else y)=((c->bW P G n K d rest m fp s x)/\(¬ c->bW P G n K d rest m fp s y)):=by
 by_cases h:c<;>simp [h]
theorem dR {op:Op} {o:Option AV} (h:MA P G op s m=fun K'=>∃ eff fp',(o.map (⟨·,[]⟩)=some eff/\fp'=fp)/\K' eff (lM m fp' (eff.wr.map (·.1)))):aV P G n K d rest m s op=bZ P G n K d rest m fp s o:=by
 unfold aV
 rw [h]
 cases o with
 |none=>simp [bZ]
 |some v=>
  simp only [dv,ao,bZ,AS.apply]
  exact propext ⟨fun ⟨_,_,⟨rfl,rfl⟩,h⟩=>h,fun h=>⟨_,_,⟨rfl,rfl⟩,h⟩⟩
theorem iS {op:Op} {o:Option eL} (h:MA P G op s m=fun K'=>∃ eff fp',(o=some eff/\fp'=fp)/\K' eff (lM m fp' (eff.wr.map (·.1)))):aV P G n K d rest m s op=bW P G n K d rest m fp s o:=by
 unfold aV
 rw [h]
 cases o with
 |none=>simp [bW]
 |some v=>
  simp only [ao,bW,AS.apply]
  exact propext ⟨fun ⟨_,_,⟨rfl,rfl⟩,h⟩=>h,fun h=>⟨_,_,⟨rfl,rfl⟩,h⟩⟩
theorem O3 {x:Operand}:aV P G n K d rest m s (.move x)=bG P G n K rest (lM m [] []) (s.put d (d8 G s.get x)):=by
 refine (dR (o:=some (d8 G s.get x)) ?_).trans rfl
 funext K';rfl
theorem CF {x:Operand}:aV P G n K d rest m s (.assign x)=bG P G n K rest (lM m [] []) (s.put d (d8 G s.get x)):=by
 refine (dR (o:=some (d8 G s.get x)) ?_).trans rfl
 funext K';rfl
def TQ (c a b:AV):Option AV:=match c with| .bool t=>some (if t=true then a else b)|_=>none
theorem O2 {c a b:Operand}:aV P G n K d rest m s (.pick c a b)=bZ P G n K d rest m [] s (TQ (d8 G s.get c) (d8 G s.get a) (d8 G s.get b)):=by
 refine dR ?_
 funext K'
 simp only [MA,OpC,RV,fX,pT,TQ]
 cases d8 G s.get c<;>rfl
theorem IG {t:TypeId}:aV P G n K d rest m s (.alloc t)=bW P G n K d rest m [] s ((b6 P t).bind fun z=>BA z s.row s.h.length):=by
 refine iS ?_
 funext K'
 simp only [MA,OpC,RV,fX,pT]
 cases b6 P t<;>rfl
theorem SZ {t:TypeId} {x:Operand}:aV P G n K d rest m s (.box t x)=bW P G n K d rest m [] s (BA (d8 G s.get x) s.row s.h.length):=iS rfl
theorem IE {t:TypeId} {ps:Array (Nat × Operand)}:aV P G n K d rest m s (.build t ps)=bZ P G n K d rest m [] s (fS P t (ps.toList.map fun p=>(p.1,d8 G s.get p.2))):=dR rfl
theorem qW {t:TypeId} {len:Nat} {ps:Array (Nat × Operand)}:aV P G n K d rest m s (.buildSlice t len ps)=bZ P G n K d rest m [] s (iO P t len (ps.toList.map fun p=>(p.1,d8 G s.get p.2))):=dR rfl
theorem O4 {t:TypeId} {x:Operand}:aV P G n K d rest m s (.load t x)=bZ P G n K d rest m (cO (d8 G s.get x)) s (iC P t (d8 G s.get x) s.row):=dR rfl
theorem I7 {t:TypeId} {x y:Operand}:aV P G n K d rest m s (.store t x y)=bW P G n K d rest m (cO (d8 G s.get x)) s (oE P t (d8 G s.get x) (d8 G s.get y) s.row):=iS rfl
theorem vD {x:Operand}:aV P G n K d rest m s (.nilCheck x)=bZ P G n K d rest m (cO (d8 G s.get x)) s (iN (d8 G s.get x) s.row):=dR rfl
theorem IF {op:BinOp} {t yt:TypeId} {x y:Operand}:aV P G n K d rest m s (.binOp op t x y yt)=bZ P G n K d rest m (cO (d8 G s.get x)) s (H7 P op t x y (d8 G s.get x) (d8 G s.get y) s.row):=dR rfl
theorem O1 {op:UnOp} {t:TypeId} {x:Operand}:aV P G n K d rest m s (.unOp op t x)=bZ P G n K d rest m [] s (aUn op (d8 G s.get x)):=dR rfl
theorem xQ {t u:TypeId} {x:Operand}:aV P G n K d rest m s (.convert t u x)=bZ P G n K d rest m [] s (m8 P t u (d8 G s.get x)):=dR rfl
theorem vE {f:Fn} {a b:Array Operand}:aV P G n K d rest m s (.makeFunc f a b)=bG P G n K rest (lM m [] []) (s.put d (.fn f (a.toList.map (d8 G s.get)) (b.toList.map (d8 G s.get)))):=(dR (o:=some _) rfl).trans rfl
def sX (x:ARow) (nb:Nat):Option eL:=match x with| .none=>some ⟨.omp nb,[(nb,.map [] [])]⟩|_=>none
theorem xO {t:TypeId}:aV P G n K d rest m s (.makeMap t none)=bW P G n K d rest m [] s (sX (s.row s.h.length) s.h.length):=by
 refine iS ?_
 funext K'
 simp only [MA,OpC,RV,fX,pT,sX]
 cases s.row s.h.length<;>rfl
theorem sM {t:TypeId} {l c:Operand}:aV P G n K d rest m s (.makeSlice t l c)=bW P G n K d rest m [] s (fY P t (d8 G s.get l) (d8 G s.get c) s.row s.h.length):=iS rfl
theorem I8 {t:TypeId} {x:Operand} {lo hi mx:Option Operand}:aV P G n K d rest m s (.slice t x lo hi mx)=bZ P G n K d rest m (cO (d8 G s.get x)) s (oF P t (d8 G s.get x) (lo.map (d8 G s.get)) (hi.map (d8 G s.get)) (mx.map (d8 G s.get)) s.row):=dR rfl
theorem sO {t:TypeId} {x:Operand} {f:Nat}:aV P G n K d rest m s (.fieldAddr t x f)=bZ P G n K d rest m (cO (d8 G s.get x)) s (bQ P t (d8 G s.get x) f s.row):=dR rfl
theorem IB {t:TypeId} {x:Operand} {f:Nat}:aV P G n K d rest m s (.field t x f)=bZ P G n K d rest m [] s (H6 P t (d8 G s.get x) f):=dR rfl
theorem sN {t:TypeId} {x i:Operand}:aV P G n K d rest m s (.indexAddr t x i)=bZ P G n K d rest m (cO (d8 G s.get x)) s (fZ P t (d8 G s.get x) (d8 G s.get i) s.row):=dR rfl
theorem IA {t:TypeId} {x i:Operand}:aV P G n K d rest m s (.index t x i)=bZ P G n K d rest m [] s (vA P t (d8 G s.get x) (d8 G s.get i)):=dR rfl
theorem CC {t:TypeId} {x i:Operand} {ok:Bool}:aV P G n K d rest m s (.lookup t x i ok)=bZ P G n K d rest m (cO (d8 G s.get x)) s (kD P t (d8 G s.get x) (d8 G s.get i) ok s.row):=dR rfl
theorem sL {t:TypeId} {m' k x:Operand}:aV P G n K d rest m s (.mapUpdate t m' k x)=bW P G n K d rest m (cO (d8 G s.get m')) s (eU P t (d8 G s.get m') (d8 G s.get k) (d8 G s.get x) s.row):=iS rfl
theorem CD {t:TypeId} {m' k x:Operand}:aV P G n K d rest m s (.insert t m' k x)=bW P G n K d rest m (cO (d8 G s.get m')) s (eU P t (d8 G s.get m') (d8 G s.get k) (d8 G s.get x) s.row):=iS rfl
theorem I9 {t:TypeId} {x:Operand}:aV P G n K d rest m s (.range t x)=bW P G n K d rest m [] s (oG P t (d8 G s.get x) s.row s.h.length):=iS rfl
theorem IC {x:Operand}:aV P G n K d rest m s (.entry x)=bZ P G n K d rest m (cO (d8 G s.get x)) s (oH (d8 G s.get x) s.row):=dR rfl
def z9 (x:AV) (i:Nat):Option AV:=match x with| .tup vs=>vs[i]? |_=>none
theorem xP {x:Operand} {i:Nat}:aV P G n K d rest m s (.extract x i)=bZ P G n K d rest m [] s (z9 (d8 G s.get x) i):=by
 refine dR ?_
 funext K'
 simp only [MA,OpC,RV,fX,pT,z9]
 cases d8 G s.get x<;>rfl
theorem xR {b:Builtin} {args:Array Operand} {ts:Array TypeId}:aV P G n K d rest m s (.call ⟨.builtin b,args,ts⟩)=bW P G n K d rest m ((args.toList.map (d8 G s.get)).flatMap cO) s (iY P b ts (args.toList.map (d8 G s.get)) s.row s.h.length):=iS rfl
theorem XD {x:Operand} {args:Array Operand} {ts:Array TypeId} (h:bL P G n K d rest m s (args.toList.map (d8 G s.get)) (d8 G s.get x)):aV P G n K d rest m s (.call ⟨.value x,args,ts⟩):=by
 unfold bL at h
 split at h
 .rename_i f first cap hx
  obtain ⟨eff,fp,h1,h2⟩:=h
  refine ⟨eff,fp,?_,h2⟩
  simp only [OpC,fX,hx]
  exact h1
 .rename_i r hx
  obtain ⟨eff,fp,h1,h2⟩:=h
  refine ⟨eff,fp,?_,h2⟩
  simp only [OpC,fX,lO,hx]
  exact h1
 .exact h.elim
theorem KT {args:List AV} {f:FuncId} {a b:List AV}:bL P G n K d rest m s args (.fn (.func f) a b)=bI P G n K d rest m s f (a++args++b):=rfl
theorem AN {f:FuncId} {args targs:List AV} {res:AV} {fp:List Nat} (hG:∀ g cs,G g=some cs->aP aE cs=true) (h:Pure P G f targs res) (hl:LendL s.row fp args targs) (hs:fp=[]\/tE res=true)
  (hk:bG P G n K rest (lM m fp []) (s.put d res)):bI P G n K d rest m s f args:=
 ⟨⟨res,[]⟩,fp,AT hG h hl hs,hk⟩
end
theorem get_put {s:AS} {t i:Nat} {v:AV}:(s.put (some t) v).get i=if i=t then v else s.get i:=AS.get_put s t v i
theorem IZ {s:AS} {v:AV}:s.put none v=s:=rfl
theorem get_wr {s:AS} {l:List (Nat × ARow)} {i:Nat}:(s.wr l).get i=s.get i:=rfl
theorem RY {s:AS}:s.wr []=s:=rfl
theorem JY {t i:Nat} {v:AV} {l:List (Nat × AV)} {h:List ARow}:AS.get ⟨eJ ((t,v)::l),h⟩ i=if i=t then v else AS.get ⟨eJ l,h⟩ i:=iA t v l i
theorem PJ {i:Nat} {h:List ARow}:AS.get ⟨eJ [],h⟩ i=.undef:=j8 i
theorem row_put {s:AS} {d:Option Tmp} {v:AV}:(s.put d v).row=s.row:=AS.row_put s d v
theorem row_wr {s:AS} {l:List (Nat × ARow)}:(s.wr l).row=upd s.row l:=AS.row_wr s l
theorem fC {rows:Nat->ARow} {r i:Nat} {x:ARow}:upd rows [(r,x)] i=if i=r then x else rows i:=rfl
theorem nF {rows:Nat->ARow} {r r' i:Nat} {x y:ARow}:upd rows [(r,x),(r',y)] i=if i=r' then y else if i=r then x else rows i:=rfl
theorem pA {fr:List AV} {h:List ARow} {r:Nat}:AS.row ⟨fr,h⟩ r=h.getD r .none:=rfl
theorem h_put {s:AS} {d:Option Tmp} {v:AV}:(s.put d v).h=s.h:=AS.h_put s d v
theorem aCs {s:AS} {r:Nat} {x:ARow}:(s.wr [(r,x)]).h=eD s.h r x:=rfl
theorem ZK {s:AS} {r r':Nat} {x y:ARow}:(s.wr [(r,x),(r',y)]).h=eD (eD s.h r x) r' y:=rfl
theorem UU {fr:List AV} {h:List ARow}:AS.h ⟨fr,h⟩=h:=rfl
theorem DB {v:ARow}:eD [] 0 v=[v]:=rfl
theorem zP {a v:ARow} {l:List ARow}:eD (a::l) 0 v=v::l:=rfl
theorem zO {a v:ARow} {l:List ARow} {n:Nat}:eD (a::l) (n+1) v=a::eD l n v:=rfl
theorem V3 {G:Nat->Option (List AV)} {g:Nat->AV} {t:Tmp}:d8 G g (.tmp t)=g t:=rfl
theorem KF {G:Nat->Option (List AV)} {g:Nat->AV} {v:Value}:d8 G g (.const v)=oR v:=rfl
theorem PM {G:Nat->Option (List AV)} {g:Nat->AV} {f:FuncId}:d8 G g (.func f)=.fn (.func f) [] []:=rfl
theorem U2 {k:IntKind} {n:Int}:oR (.int k n)=.int k n:=rfl
theorem OP {b:Bool}:oR (.bool b)=.bool b:=rfl
theorem U0 {b:ByteArray}:oR (.string b)=.str b:=rfl
theorem U1:oR (.slice none 0 0)=.sl true []:=rfl
theorem CU:oR (.map none)=.mp [] []:=rfl
theorem CN {t:Bool} {a b:AV}:TQ (.bool t) a b=some (if t=true then a else b):=rfl
theorem vV {vs:List AV} {i:Nat}:z9 (.tup vs) i=vs[i]? :=rfl
theorem DY {X Y:Prop} {b:Bool}:lX X Y (.bool b)=((b=true->X)/\(b=false->Y)):=rfl
theorem KL {X Y:Prop}:lX X Y .anyb=(X/\Y):=rfl
theorem DX {X Y:Prop}:lX X Y (.bool true)=X:=by simp [lX]
theorem AG {X Y:Prop}:lX X Y (.bool false)=Y:=by simp [lX]
theorem DD {g:Nat->AV}:mG [] g=True:=rfl
theorem zQ {g:Nat->AV} {t:Nat} {v:AV} {l:List (Nat × AV)}:mG ((t,v)::l) g=(g t=v/\mG l g):=rfl
theorem t6 {K:AS->Prop} {Q:Exit->AS->Prop} {s:AS}:mY K Q .normal s=K s:=rfl
theorem EB {K:AS->Prop} {Q:Exit->AS->Prop} {s:AS}:mY K Q .ret s=Q .ret s:=rfl
theorem AZ {K:AS->Prop} {Q:Exit->AS->Prop} {s:AS} {i:Nat}:mY K Q (.exit i) s=Q (.exit i) s:=rfl
theorem rI {Q:Exit->AS->Prop} {s:AS} {i:Nat}:oD i Q .normal s=Q .normal s:=rfl
theorem B7 {Q:Exit->AS->Prop} {s:AS} {i:Nat}:oD i Q .ret s=Q .ret s:=rfl
theorem v9 {Q:Exit->AS->Prop} {s:AS} {i j:Nat}:oD i Q (.exit j) s=if j=i then Q .normal s else Q (.exit j) s:=rfl
theorem LB {f w:List Nat}:lM none f w=none:=rfl
theorem LA {f w:List Nat} {a:eV}:lM (some a) f w=some ((f,w)::a):=rfl
end Go.AM
namespace Go.AM
theorem GL {P:Program} {s:TypeId} {f:Nat} {t o:Nat} (h:(lU P s f).map (fun d=>(d.type,d.offset))=some (t,o)):∃ d,lU P s f=some d/\d.type=t/\d.offset=o:=by
 cases hd:lU P s f with
 |none=>rw [hd] at h;cases h
 |some d=>
  rw [hd] at h
  simp only [dv,ao,db] at h
  exact ⟨d,rfl,h.1,h.2⟩
def bV (P:Program) (t:TypeId) (o:Nat) (x:AV) (rows:Nat->ARow):Option AV:=
 match b5 P t with
 |some (_+1)=>match x with
  | .ptr r ver off=>(aU rows r ver).map fun _=>.ptr r ver (off+o)
  | .imm cs=>some (.imm (cs.drop o))
  |_=>none
 |_=>none
theorem BZ {P:Program} {s:TypeId} {f:Nat} {t o:Nat} (h:∃ d,lU P s f=some d/\d.type=t/\d.offset=o) (x:AV) (rows:Nat->ARow):bQ P s x f rows=bV P t o x rows:=by
 obtain ⟨d,h1,rfl,rfl⟩:=h
 unfold bQ bV
 rw [h1]
 rfl
def V1 (P:Program) (t:TypeId) (o:Nat) (x:AV):Option AV:=match x with| .agg cs=>sC P t cs o|_=>none
def sJ (P:Program) (t:TypeId):Option (List (Nat × Nat)):=match P.underlying t with|some (.struct fields)=>yM P fields|_=>none
theorem C0 {P:Program} {t:TypeId} {z:List AV} {places:List (Nat × Nat)} {parts:List (Nat × AV)} (hz:(b6 P t).bind AV.toCells=some z) (hp:sJ P t=some places):
  fS P t parts=(fL (fun i=>places[i]?) z parts).map .agg:=by
 unfold sJ at hp
 split at hp
 .rename_i fields hu
  unfold fS
  rw [hu,hz]
  simp only [hp]
 .cases hp
theorem uE {P:Program} {t e:TypeId} {n sz:Nat} {z:List AV} {parts:List (Nat × AV)} (hz:(b6 P t).bind AV.toCells=some z) (hu:P.underlying t=some (.array n e)) (hs:b5 P e=some sz):
  fS P t parts=(fL (fun i=>some (i*sz,sz)) z parts).map .agg:=by
 unfold fS
 rw [hu,hz]
 simp only [hs]
theorem aD {P:Program} {fn:Func} {R:AV->AS->Prop} {s:AS} {t:Tmp} (h:fn.results= #[.tmp t]) (hR:R (s.get t) s):eR P fn R .ret s:=
 ⟨s.get t,by simp [dF,fF,kC,h],hR⟩
theorem eS {P:Program} {fn:Func} {R:AV->AS->Prop} {s:AS} {t u:Tmp} (h:fn.results= #[.tmp t,.tmp u]) (hR:R (.tup [s.get t,s.get u]) s):eR P fn R .ret s:=
 ⟨.tup [s.get t,s.get u],by simp [dF,fF,kC,h],hR⟩
theorem RD {P:Program} {fn:Func} {R:AV->AS->Prop} {s:AS} (h:fn.results= #[]) (hR:R (.tup []) s):eR P fn R .ret s:=
 ⟨.tup [],by simp [dF,fF,h],hR⟩
theorem jC {P:Program} {fn:Func} {R:AV->AS->Prop} {s:AS} (h:fn.results= #[]) (hR:R (.tup []) s):eR P fn R .normal s:=
 ⟨.tup [],by simp [dF,fF,h],hR⟩
theorem aO {k m:Nat} (h:k<m) (hm:m<=4611686018427387904):IntKind.i64.wrap ((k:Int)+1)=((k+1:Nat):Int):=by
 rw [dP (by omega) (by omega)]
 omega
end Go.AM
namespace Go.AM
theorem kW {rows rows':Nat->ARow} {r ver:Nat} (h:rows' r=rows r):aU rows' r ver=aU rows r ver:=by unfold aU;rw [h]
section
variable {P:Program} {rows rows':Nat->ARow} {nb:Nat}
theorem UE {t:TypeId} {x:AV} (h:∀ r∈cO x,rows' r=rows r):iC P t x rows'=iC P t x rows:=by
 cases x<;>simp_all [iC,cO,aU]
theorem G4 {x:AV} (h:∀ r∈cO x,rows' r=rows r):iN x rows'=iN x rows:=by
 cases x<;>simp_all [iN,cO,aU]<;>(split<;>simp_all)
theorem BR {t:TypeId} {x:AV} {f:Nat} (h:∀ r∈cO x,rows' r=rows r):bQ P t x f rows'=bQ P t x f rows:=by
 cases x<;>simp_all [bQ,cO,aU]
theorem QS {t:TypeId} {x y:AV} (h:∀ r∈cO x,rows' r=rows r):oE P t x y rows'=oE P t x y rows:=by
 cases x<;>simp_all [oE,cO,aU]<;>(split<;>simp_all)
theorem BQ {t:TypeId} {x i:AV} (h:∀ r∈cO x,rows' r=rows r):fZ P t x i rows'=fZ P t x i rows:=by
 cases x<;>simp_all [fZ,cO,aU]
theorem MN {x:AV} (h:∀ r∈cO x,rows' r=rows r):nM x rows'=nM x rows:=by
 cases x<;>simp_all [nM,cO,aU]
theorem YG {op:BinOp} {t:TypeId} {x y:Operand} {a b:AV} (h:∀ r∈cO a,rows' r=rows r):H7 P op t x y a b rows'=H7 P op t x y a b rows:=by
 unfold H7
 rw [MN h]
theorem QT {t:TypeId} {x:AV} {lo hi mx:Option AV} (h:∀ r∈cO x,rows' r=rows r):oF P t x lo hi mx rows'=oF P t x lo hi mx rows:=by
 cases x<;>simp only [oF,cO,aU,bd,forall_eq,jh] at h ⊢<;>(try rw [h])<;>(split<;>first|rfl|(simp_all;done)|(split<;>simp_all))
theorem MO {t:TypeId} {x k:AV} {ok:Bool} (h:∀ r∈cO x,rows' r=rows r):kD P t x k ok rows'=kD P t x k ok rows:=by
 cases x<;>simp_all [kD,cO]<;>(split<;>simp_all)
theorem rD {t:TypeId} {x k v:AV} (h:∀ r∈cO x,rows' r=rows r):eU P t x k v rows'=eU P t x k v rows:=by
 cases x<;>simp_all [eU,cO]<;>(split<;>simp_all)
theorem QV {x:AV} (h:∀ r∈cO x,rows' r=rows r):oH x rows'=oH x rows:=by
 cases x<;>simp_all [oH,cO]<;>(split<;>simp_all)
theorem YF {t:TypeId} {x:AV} (h:∀ r∈cO x,rows' r=rows r):uD P t x rows'=uD P t x rows:=by
 cases x<;>simp_all [uD,cO,aU]
theorem QW {t:TypeId} {x:AV} (h:∀ r∈cO x,rows' r=rows r):pY P t x rows'=pY P t x rows:=by
 cases x<;>simp_all [pY,cO,aU]
theorem YE {sz:Nat} {x:AV} (h:∀ r∈cO x,rows' r=rows r):cW sz x rows'=cW sz x rows:=by
 cases x<;>simp_all [cW,cO,aU]
theorem OZ {z:AV} {eff:eL} (h:BA z rows nb=some eff) (hr:∀ r∈eff.wr.map (·.1),rows' r=rows r):BA z rows' nb=some eff:=by
 unfold BA at h ⊢
 split at h
 .rename_i cs hc hn
  injection h with h
  subst h
  rw [hr nb (by simp),hn,hc]
 .cases h
theorem BP {t:TypeId} {l c:AV} {eff:eL} (h:fY P t l c rows nb=some eff) (hr:∀ r∈eff.wr.map (·.1),rows' r=rows r):fY P t l c rows' nb=some eff:=by
 unfold fY at h ⊢
 split at h
 .rename_i e n m h1 h2 h3 h4
  split at h
  .rename_i sz by' z h5 h6 h7
   split at h
   .rename_i hc
    injection h with h
    subst h
    have:=hr nb (by simp)
    rw [this,h4,h1,h2,h3]
    simp only [h5,h6,h7]
    rw [if_pos hc]
   .cases h
  .cases h
 .cases h
theorem JL {u:TypeId} {s x:AV} {eff:eL} (h:qP P u s x rows=some eff) (h1:∀ r∈cO s,rows' r=rows r):qP P u s x rows'=some eff:=by
 unfold qP at h ⊢
 split at h
 .split at h
  .rename_i hc
   rw [if_pos hc]
   split at h
   .exact h
   .rename_i r ver off n sz f
    have hrr:rows' r=rows r:=h1 r (by simp [cO])
    rw [kW hrr]
    exact h
   .exact h
   .cases h
  .cases h
 .cases h
theorem JM {s:AV} {sz by' m:Nat} {new:List AV} {eff:eL} (h:L6 s rows nb sz by' m new=some eff) (h1:∀ r∈cO s,rows' r=rows r) (hr:∀ r∈eff.wr.map (·.1),rows' r=rows r):L6 s rows' nb sz by' m new=some eff:=by
 unfold L6 at h ⊢
 split at h
 .split at h
  .rename_i hf
   rw [if_pos hf]
   split at h
   .rename_i hm;rw [if_pos hm];exact h
   .rename_i hm
    rw [if_neg hm]
    split at h
    .rename_i hn
     injection h with h
     subst h
     rw [hr nb (by simp),hn]
    .cases h
  .cases h
 .rename_i r ver off n sz' full
  have hrr:rows' r=rows r:=h1 r (by simp [cO])
  rw [kW hrr]
  split at h
  .cases h
  rename_i cs hcs
  try simp only [hcs]
  split at h
  .rename_i hf
   rw [if_pos hf]
   split at h
   .rename_i hfu
    rw [if_pos hfu]
    split at h
    .rename_i hm;rw [if_pos hm];exact h
    .rename_i hm
     rw [if_neg hm]
     split at h
     .rename_i hn
      injection h with h
      subst h
      rw [hr nb (by simp),hn]
     .cases h
   .rename_i hfu
    rw [if_neg hfu]
    exact h
  .cases h
 .rename_i r ver off n sz'
  have hrr:rows' r=rows r:=h1 r (by simp [cO])
  rw [kW hrr]
  exact h
 .rename_i r
  have hrr:rows' r=rows r:=h1 r (by simp [cO])
  rw [hrr]
  exact h
 .cases h
theorem MQ {t u:TypeId} {s x:AV} {eff:eL} (h:eP P t u s x rows nb=some eff) (h1:∀ r∈cO s,rows' r=rows r) (h2:∀ r∈cO x,rows' r=rows r) (hr:∀ r∈eff.wr.map (·.1),rows' r=rows r):eP P t u s x rows' nb=some eff:=by
 have key:rows' nb=rows nb\/rows nb≠.none\/nb ∉ eff.wr.map (·.1):=by
  by_cases hm:nb∈eff.wr.map (·.1)
  .exact .inl (hr nb hm)
  .exact .inr (.inr hm)
 unfold eP at h ⊢
 split at h
 .cases h
 rename_i e he
 try simp only [he]
 split at h
 .rename_i sz by' z k1 k2 k3
  rw [YE h2]
  try simp only [k1,k2,k3]
  split at h
  .rename_i hs
   try simp only [hs]
   unfold aBj at h ⊢
   split at h
   .split at h
    .rename_i hn
     rw [if_pos hn]
     exact JL h h1
    .rename_i hn
     rw [if_neg hn]
     simp only [au] at h
     rw [if_pos h.1]
     exact JM h.2 h1 hr
   .cases h
  rename_i m new hs
  try simp only [hs]
  split at h
  .rename_i hc
   rw [if_pos hc]
   exact JM h h1 hr
  .cases h
 .cases h
theorem QU {t:TypeId} {x:AV} {eff:eL} (h:oG P t x rows nb=some eff) (hr:∀ r∈eff.wr.map (·.1),rows' r=rows r):oG P t x rows' nb=some eff:=by
 unfold oG at h ⊢
 split at h
 .rename_i h1 h2
  injection h with h
  subst h
  rw [hr nb (by simp),h2,h1]
 .cases h
theorem JK {b:Builtin} {ts:Array TypeId} {args:List AV} {eff:eL} (h:iY P b ts args rows nb=some eff) (hf:∀ r∈args.flatMap cO,rows' r=rows r) (hr:∀ r∈eff.wr.map (·.1),rows' r=rows r):iY P b ts args rows' nb=some eff:=by
 unfold iY at h ⊢
 split at h
 .rename_i s x
  split at h
  .rename_i t u ht hu
   try simp only [ht,hu]
   split at h
   .rename_i hs
    rw [if_pos hs]
    exact MQ h (fun r hm=>hf r (by simp [hm])) (fun r hm=>hf r (by simp [hm])) hr
   .cases h
  .cases h
 .rename_i x
  split at h
  .rename_i t ht
   try simp only [ht]
   rw [YF fun r hm=>hf r (by simp [hm])]
   exact h
  .cases h
 .rename_i x
  split at h
  .rename_i t ht
   try simp only [ht]
   rw [QW fun r hm=>hf r (by simp [hm])]
   exact h
  .cases h
 .exact h
 .exact h
 .cases h
theorem u4 {o:Op} {ev:Operand->AV} {eff:eL} (h:pT P o ev rows nb=some eff) (hf:∀ r∈RV o ev,rows' r=rows r) (hr:∀ r∈eff.wr.map (·.1),rows' r=rows r):pT P o ev rows' nb=some eff:=by
 unfold pT at h ⊢
 split at h<;>simp only [RV] at hf
 case h_4=>
  split at h
  .rename_i z hz;try simp only [hz]
   exact OZ h hr
  .cases h
 case h_5=>exact OZ h hr
 case h_8=>rw [UE hf];exact h
 case h_9=>rw [QS hf];exact h
 case h_10=>rw [G4 hf];exact h
 case h_11=>rw [YG hf];exact h
 case h_15=>
  split at h
  .rename_i hn
   injection h with h
   subst h
   rw [hr nb (by simp),hn]
  .cases h
 case h_16=>exact BP h hr
 case h_17=>rw [QT hf];exact h
 case h_18=>rw [BR hf];exact h
 case h_20=>rw [BQ hf];exact h
 case h_22=>rw [MO hf];exact h
 case h_23=>rw [rD hf];exact h
 case h_24=>rw [rD hf];exact h
 case h_25=>exact QU h hr
 case h_26=>rw [QV hf];exact h
 case h_28=>
  rename_i c
  split at h
  .rename_i b hb
   simp only [hb] at hf
   exact JK h hf hr
  .cases h
 all_goals exact h
end
end Go.AM
namespace Go.AM
theorem EJ {P:Program} {o:Op} {ev ev':Operand->AV} (h:∀ x∈o.operands,ev' x=ev x) (rows:Nat->ARow) (nb:Nat):pT P o ev' rows nb=pT P o ev rows nb:=by
 have pairs:∀ ps:Array (Nat × Operand),(∀ x∈(ps.toList.map (·.2)).toArray,ev' x=ev x)->(ps.toList.map fun p=>(p.1,ev' p.2))=(ps.toList.map fun p=>(p.1,ev p.2)):=fun ps hp=>
  fg fun p hm=>by
   rw [hp p.2 (by simp only [List.mem_toArray,cf];exact ⟨p,hm,rfl⟩)]
 cases o<;>simp only [Op.operands] at h<;>simp only [pT]
 case build t ps=>rw [pairs ps h]
 case buildSlice t len ps=>rw [pairs ps h]
 case makeFunc f a b=>
  rw [fg (l:=a.toList) fun x hx=>h x (by simp at hx ⊢;exact .inl hx),fg (l:=b.toList) fun x hx=>h x (by simp at hx ⊢;exact .inr hx)]
 case makeMap t r=>cases r<;>rfl
 case slice t x lo hi mx=>
  cases lo<;>cases hi<;>cases mx<;>simp_all
 case call c=>
  cases hc:c.callee<;>simp only [Call.operands,hc] at h<;>try rfl
  rw [fg (l:=c.args.toList) fun x hx=>h x (by simp at hx ⊢;exact hx)]
 all_goals (first|rfl|(simp_all;done))
theorem GR {o:Op} {ev ev':Operand->AV} (h:∀ x∈o.operands,ev' x=ev x):fX o ev'=fX o ev:=by
 cases o<;>simp only [Op.operands] at h<;>simp only [fX]
 case call c=>
  cases hc:c.callee<;>simp only [Call.operands,hc] at h<;>try rfl
  rename_i x
  have e1:ev' x=ev x:=h x (by simp)
  have e2:c.args.toList.map ev'=c.args.toList.map ev:=fg fun x hx=>h x (by simp at hx ⊢;exact .inr hx)
  simp only [e1,e2]
theorem HF {o:Op} {ev ev':Operand->AV} (h:∀ x∈o.operands,ev' x=ev x):lO o ev'=lO o ev:=by
 cases o<;>simp only [Op.operands] at h<;>simp only [lO]
 case call c=>
  cases hc:c.callee<;>simp only [Call.operands,hc] at h<;>try rfl
  rename_i x
  have e1:ev' x=ev x:=h x (by simp)
  have e2:c.args.toList.map ev'=c.args.toList.map ev:=fg fun x hx=>h x (by simp at hx ⊢;exact .inr hx)
  simp only [e1,e2]
theorem DQ {o:Op} {ev ev':Operand->AV} (h:∀ x∈o.operands,ev' x=ev x):RV o ev'=RV o ev:=by
 cases o<;>simp only [Op.operands] at h<;>simp only [RV]
 case call c=>
  cases hc:c.callee<;>simp only [Call.operands,hc] at h<;>try rfl
  rw [fg (l:=c.args.toList) fun x hx=>h x (by simp at hx ⊢;exact hx)]
 all_goals (first|rfl|(simp_all;done))
theorem DT {G:Nat->Option (List AV)} {g g':Nat->AV} {x:Operand} (h:∀ t,x=.tmp t->g' t=g t):d8 G g' x=d8 G g x:=by
 cases x<;>first|rfl|exact h _ rfl
theorem D0 {ops:Array Oper} {o:Oper} {t:Tmp} (h:Operand.tmp t∈o.op.operands):t∈o.looksAt ops:=
 gu _ (List.mem_filterMap.2 ⟨.tmp t,by simpa using h,rfl⟩)
theorem OpC.moved {P:Program} {G:Nat->Option (List AV)} {ops:Array Oper} {o:Oper} {g g':Nat->AV} {rows rows':Nat->ARow} {nb:Nat} {fp:List Nat} {eff:eL} (h:OpC P G o.op (d8 G g) rows nb fp eff)
  (hg:∀ t∈o.looksAt ops,g' t=g t) (hr:∀ r,r∈fp\/r∈eff.wr.map (·.1)->rows' r=rows r):OpC P G o.op (d8 G g') rows' nb fp eff:=by
 have he:∀ x∈o.op.operands,d8 G g' x=d8 G g x:=fun x hx=>DT fun t ht=>hg t (D0 (ht ▸ hx))
 unfold OpC at h ⊢
 rw [GR he]
 split at h
 .rename_i f args hc
  obtain ⟨h1,h2,h3⟩:=h
  exact ⟨h1,h2,fun E us i hE=>h3 E us i fun r hm=>by rw [hE r hm];exact hr r (.inl hm)⟩
 .rw [HF he]
  split at h
  .rename_i q args hc
   obtain ⟨h0,h1,h2,h3⟩:=h
   exact ⟨h0,by rw [hr q (.inl h0)];exact h1,h2,fun E us i hE=>h3 E us i fun r hm=>by rw [hE r hm];exact hr r (.inl hm)⟩
  .obtain ⟨h1,rfl⟩:=h
   rw [EJ he,DQ he]
   exact ⟨u4 h1 (fun r hm=>hr r (.inl hm)) (fun r hm=>hr r (.inr hm)),rfl⟩
theorem vB {ops:Array Oper} {o:Oper} {s s':AS} (hg:∀ t∈o.looksAt ops,s'.get t=s.get t):kP ops o s'=kP ops o s:=by
 unfold kP
 cases hgd:o.guard with
 |none=>rfl
 |some p=>
  obtain ⟨j,w⟩:=p
  simp only
  cases hd:(ops[j]?).bind (·.dst) with
  |none=>rfl
  |some d=>
   simp only
   rw [hg d (by simp [Oper.looksAt,hgd,hd])]
def iZ (D:Nat->Option Tmp) (e:Nat->eL) (s:AS):Nat->AS
 |0=>s
 |i+1=>(iZ D e s i).apply (D i) (e i)
theorem mP (D:Nat->Option Tmp) (e:Nat->eL) (s:AS):∀ i,iZ D e s (i+1)=iZ (fun i=>D (i+1)) (fun i=>e (i+1)) (s.apply (D 0) (e 0)) i
 |0=>rfl
 |i+1=>by
  show (iZ D e s (i+1)).apply (D (i+1)) (e (i+1))=_
  rw [mP D e s i]
  rfl
def pZ (P:Program) (G:Nat->Option (List AV)) (ops:Array Oper) (o:Oper) (s:AS) (e:eL) (F:List Nat):Prop:=
 (kP ops o s=some true/\OpC P G o.op (d8 G s.get) s.row s.h.length F e)\/(kP ops o s=some false/\e=⟨.tup [],[]⟩/\F=[])
def oM (F:Nat->List Nat) (e:Nat->eL):Nat->eV->eV
 |0,a=>a
 |i+1,a=>(F i,(e i).wr.map (·.1))::oM F e i a
theorem sD (F:Nat->List Nat) (e:Nat->eL) (a:eV):∀ i,oM F e (i+1) a=oM (fun i=>F (i+1)) (fun i=>e (i+1)) i ((F 0,(e 0).wr.map (·.1))::a)
 |0=>rfl
 |i+1=>by
  show (F (i+1),_)::oM F e (i+1) a=_
  rw [sD F e a i]
  rfl
theorem xI {P:Program} {G:Nat->Option (List AV)} {n:Nat} {ops:Array Oper} {K:Option eV->AS->Prop}:∀ (l:List Oper) (s:AS) (acc:eV),
  bG P G n K (l.map fun o=>(o.dst,o.op,o.guard.map fun p=>((ops[p.1]?).bind (·.dst),p.2))) (some acc) s->
  ∃ (e:Nat->eL) (F:Nat->List Nat),(∀ i o,l[i]? =some o->jO n o.dst/\pZ P G ops o (iZ (fun i=>(l[i]?).bind (·.dst)) e s i) (e i) (F i))/\K (some (oM F e l.length acc)) (iZ (fun i=>(l[i]?).bind (·.dst)) e s l.length)
 | [],s,acc,h=>⟨fun _=>⟨.tup [],[]⟩,fun _=>[],by simp,h⟩
 | o :: rest, s, acc, h => by
  simp only [ay,bG] at h
  obtain ⟨hd,h⟩:=h
  have fin:∀ (e0:eL) (F0:List Nat),pZ P G ops o s e0 F0->
    bG P G n K (rest.map fun o=>(o.dst,o.op,o.guard.map fun p=>((ops[p.1]?).bind (·.dst),p.2))) (some ((F0,e0.wr.map (·.1))::acc)) (s.apply o.dst e0)->
    ∃ (e:Nat->eL) (F:Nat->List Nat),(∀ i o',(o::rest)[i]? =some o'->jO n o'.dst/\pZ P G ops o' (iZ (fun i=>((o::rest)[i]?).bind (·.dst)) e s i) (e i) (F i))/\
     K (some (oM F e (o::rest).length acc)) (iZ (fun i=>((o::rest)[i]?).bind (·.dst)) e s (o::rest).length):=by
   intro e0 F0 hst hr
   obtain ⟨e,F,h1,h2⟩:=xI rest _ _ hr
   refine ⟨fun|0=>e0|i+1=>e i,fun|0=>F0|i+1=>F i,fun i o' ho=>?_,?_⟩
   .cases i with
    |zero=>
     simp at ho
     subst ho
     exact ⟨hd,hst⟩
    |succ i=>
     have:=h1 i o' (by simpa using ho)
     rw [mP]
     exact this
   .rw [af,mP,sD]
    exact h2
  rw [<- oS] at h
  split at h
  .rename_i hw
   unfold MA at h
   split at h
   .obtain ⟨h0,_⟩:=h
    cases h0
   .obtain ⟨eff,fp,h1,h2⟩:=h
    exact fin eff fp (.inl ⟨hw,h1⟩) h2
  .rename_i hw
   exact fin ⟨.tup [],[]⟩ [] (.inr ⟨hw,rfl,rfl⟩) h
  .exact h.elim
def gl (D:Nat->Option Tmp) (e:Nat->eL) (s:AS) (L:Nat->Bool):Nat->Nat->AV
 |0,t=>s.get t
 |m+1,t=>if L m=true/\D m=some t then (e m).val else gl D e s L m t
def rl (e:Nat->eL) (s:AS) (L:Nat->Bool):Nat->Nat->ARow
 |0=>s.row
 |m+1=>if L m=true then upd (rl e s L m) (e m).wr else rl e s L m
def eW (e:Nat->eL) (i r:Nat):Prop:=r∈(e i).wr.map (·.1)
section
variable {D:Nat->Option Tmp} {e:Nat->eL} {s:AS}
theorem MZ:∀ i t,(iZ D e s i).get t=gl D e s (fun _=>true) i t
 |0,_=>rfl
 |i+1,t=>by
  simp only [iZ,gl,AS.apply]
  cases hd:D i with
  |none=>simp only [AS.get_put_none,AS.get_wr];simpa using MZ i t
  |some d=>
   rw [AS.get_put]
   simp only [ao,true_and,AS.get_wr]
   by_cases h:t=d
   .subst h;simp
   .rw [if_neg h,if_neg (fun e=>h e.symm)];exact MZ i t
theorem TD:∀ i,(iZ D e s i).row=rl e s (fun _=>true) i
 |0=>rfl
 |i+1=>by
  simp only [iZ,rl,AS.apply,if_true]
  rw [AS.row_put,AS.row_wr,TD i]
theorem zU {L L':Nat->Bool}:∀ (m t:Nat),(∀ j,j<m->D j=some t->L j=L' j)->gl D e s L m t=gl D e s L' m t
 |0,_,_=>rfl
 |m+1,t,h=>by
  simp only [gl]
  rw [zU m t fun j hj=>h j (by omega)]
  by_cases hd:D m=some t
  .rw [h m (by omega) hd]
  .simp [hd]
theorem GH {L:Nat->Bool}:∀ (m k t:Nat),(∀ j,m<=j->j<m+k->D j=some t->L j=false)->gl D e s L (m+k) t=gl D e s L m t
 |m,0,t,_=>rfl
 |m,k+1,t,h=>by
  show gl D e s L (m+k+1) t=_
  simp only [gl]
  rw [if_neg,GH m k t fun j h1 h2=>h j h1 (by omega)]
  rintro ⟨h1,h2⟩
  rw [h (m+k) (by omega) (by omega) h2] at h1
  cases h1
theorem gI {r:Nat} {rows:Nat->ARow} {l:List (Nat × ARow)} (h:r ∉ l.map (·.1)):upd rows l r=rows r:=
 gW l rows r fun p hp e=>h (cf.2 ⟨p,hp,e⟩)
theorem sS {L L':Nat->Bool}:∀ (m r:Nat),(∀ j,j<m->eW e j r->L j=L' j)->rl e s L m r=rl e s L' m r
 |0,_,_=>rfl
 |m+1,r,h=>by
  have ih:=sS m r fun j hj=>h j (by omega)
  simp only [rl]
  by_cases hw:eW e m r
  .rw [h m (by omega) hw]
   split
   .exact dA _ _ _ r ih
   .exact ih
  .have a:∀ rows,upd rows (e m).wr r=rows r:=fun rows=>gI hw
   split<;>split<;>simp only [a,ih]
theorem wQ {L:Nat->Bool}:∀ (m k r:Nat),(∀ j,m<=j->j<m+k->eW e j r->L j=false)->rl e s L (m+k) r=rl e s L m r
 |m,0,r,_=>rfl
 |m,k+1,r,h=>by
  show rl e s L (m+k+1) r=_
  simp only [rl]
  have ih:=wQ m k r fun j h1 h2=>h j h1 (by omega)
  by_cases hw:eW e (m+k) r
  .rw [h (m+k) (by omega) (by omega) hw]
   simpa using ih
  .split
   .rw [gI hw];exact ih
   .exact ih
theorem DM {L:Nat->Bool} {N i t:Nat} (hi:i<=N) (h1:∀ j,j<i->D j=some t->L j=true) (h2:∀ j,i<=j->j<N->D j=some t->L j=false):gl D e s L N t=(iZ D e s i).get t:=by
 rw [MZ]
 obtain ⟨k,rfl⟩:=Nat.exists_eq_add_of_le hi
 rw [GH i k t h2]
 exact zU i t fun j hj hd=>by rw [h1 j hj hd]
theorem yB {L:Nat->Bool} {N i r:Nat} (hi:i<=N) (h1:∀ j,j<i->eW e j r->L j=true) (h2:∀ j,i<=j->j<N->eW e j r->L j=false):rl e s L N r=(iZ D e s i).row r:=by
 rw [TD]
 obtain ⟨k,rfl⟩:=Nat.exists_eq_add_of_le hi
 rw [wQ i k r h2]
 exact sS i r fun j hj hd=>by rw [h1 j hj hd]
def fW (L:Nat->Bool) (i:Nat):Nat->Bool:=fun j=>if j=i then true else L j
theorem PI {L:Nat->Bool} {N i t:Nat} (hi:i<N) (h2:∀ j,i<j->j<N->D j=some t->D i=some t->L j=false):gl D e s (fW L i) N t=if D i=some t then (e i).val else gl D e s L N t:=by
 by_cases hd:D i=some t
 .rw [if_pos hd]
  obtain ⟨k,rfl⟩:=Nat.exists_eq_add_of_le (show i+1<=N from hi)
  rw [GH (i+1) k t fun j a b c=>by
   have:j≠i:=by omega
   simp only [fW,if_neg this]
   exact h2 j (by omega) b c hd]
  simp [gl,fW,hd]
 .rw [if_neg hd]
  exact zU N t fun j hj hdj=>by
   have:j≠i:=fun e=>hd (e ▸ hdj)
   simp [fW,this]
theorem FC {L:Nat->Bool} {N i r:Nat} (hi:i<N) (hL:L i=false) (h2:∀ j,i<j->j<N->eW e j r->eW e i r->L j=false):rl e s (fW L i) N r=upd (rl e s L N) (e i).wr r:=by
 by_cases hw:eW e i r
 .obtain ⟨k,rfl⟩:=Nat.exists_eq_add_of_le (show i+1<=N from hi)
  have a:∀ j,i+1<=j->j<i+1+k->eW e j r->L j=false:=fun j a b c=>h2 j (by omega) b c hw
  have e1:rl e s (fW L i) (i+1+k) r=rl e s (fW L i) (i+1) r:=wQ (i+1) k r fun j h1 h3 h4=>by
   have:j≠i:=by omega
   simp only [fW,if_neg this]
   exact a j h1 h3 h4
  have e2:rl e s L (i+1+k) r=rl e s L (i+1) r:=wQ (i+1) k r a
  have e3:rl e s L (i+1) r=rl e s L i r:=by simp [rl,hL]
  rw [e1]
  simp only [rl,fW,if_true]
  refine dA _ _ _ r ?_
  rw [e2,e3]
  exact sS i r fun j hj _=>by
   have:j≠i:=by omega
   simp [fW,this]
 .rw [gI hw]
  exact sS N r fun j hj hdj=>by
   have:j≠i:=fun e=>hw (e ▸ hdj)
   simp [fW,this]
end
end Go.AM
namespace Go.AM
def LK (ops:Array Oper) (L:Nat->Bool):Prop:=∀ (j:Nat) (o:Oper),ops[j]? =some o->L j=true->∀ ed∈o.after,Region.binds .any ed=true->L ed.on=true
def f6 (ops:Array Oper) (i j:Nat):Prop:=∀ L,LK ops L->L j=true->L i=true
theorem Sim.congr [i6] {G:Nat->Option (List AV)} {n:Nat} {s s':AS} {E:En} {a:Act} (h:Sim G n s E a) (hg:s'.get=s.get) (hr:s'.row=s.row):Sim G n s' E a:=
 ⟨h.inv,by rw [h.rows,hr],h.sz,fun t=>by rw [hg];exact h.tm t,h.df⟩
def tK (N:Nat) (L:Nat->Bool):Nat:=(List.range N).countP fun i=> !L i
theorem nU {N:Nat} {L:Nat->Bool} {i:Nat} (hi:i<N) (hL:L i=false):tK N (fW L i)<tK N L:=by
 unfold tK
 have h1:∀ l:List Nat,(l.countP fun j=> !fW L i j)<=l.countP fun j=> !L j:=fun l=>by
  apply List.countP_mono_left
  intro j _ hj
  unfold fW at hj
  split at hj
  .cases hj
  .exact hj
 have h2:∀ l:List Nat,i∈l->(l.countP fun j=> !fW L i j)<l.countP fun j=> !L j:=by
  intro l
  induction l with
  |nil=>intro h;cases h
  |cons x l ih=>
   intro h
   simp only [List.countP_cons]
   by_cases hx:x=i
   .subst hx
    have:=h1 l
    have e1:fW L x x=true:=by simp [fW]
    simp only [e1,hL,bf,aw,if_false,be,if_true]
    omega
   .have:=ih (by simpa [Ne.symm hx] using h)
    have e:fW L i x=L x:=by simp [fW,hx]
    rw [e]
    omega
 exact h2 _ (gg.2 hi)
section
variable {P:Program} {G:Nat->Option (List AV)} {n:Nat} {ops:Array Oper} {Q':Exit->Act->World->Prop}
theorem aBl [i6] {s:AS} {E0:En} {e:Nat->eL} {F:Nat->List Nat} {D:Nat->Option Tmp} (hD:∀ i o,ops[i]? =some o->D i=o.dst) (hDn:∀ i,ops[i]? =none->D i=none)
  (hst:∀ i o,ops[i]? =some o->jO n o.dst/\pZ P G ops o (iZ D e s i) (e i) (F i))
  (hA:∀ (j:Nat) (o:Oper),ops[j]? =some o->∀ ed∈o.after,Region.binds .any ed=true->ed.on<j)
  (hB:∀ (i j:Nat) (oi oj:Oper),i<j->ops[i]? =some oi->ops[j]? =some oj->oi.apart ops oj=true\/f6 ops i j)
  (hC:∀ (i j r:Nat),i<j->j<ops.size->(eW e i r/\(r∈F j\/eW e j r))\/(eW e j r/\(r∈F i\/eW e i r))->f6 ops i j)
  (hk:∀ s' E a,s'.get=(iZ D e s ops.size).get->s'.row=(iZ D e s ops.size).row->Sim G n s' E a->Ext E0 E->Q' .normal a E.w):
  ∀ (fuel:Nat) (listed:Array Bool) (s':AS) (E:En) (a:Act),tK ops.size (fun j=>listed.getD j false)<=fuel->listed.size=ops.size->LK ops (fun j=>listed.getD j false)->
   (∀ t,s'.get t=gl D e s (fun j=>listed.getD j false) ops.size t)->(∀ r,s'.row r=rl e s (fun j=>listed.getD j false) ops.size r)->Sim G n s' E a->Ext E0 E->
   wpAnyIn BJ 0 P .any ops Q' fuel listed a E.w:=by
 -- all are listed when none is ready
 have hfull : ∀ listed : Array Bool, listed.size = ops.size -> Region.ready .any ops listed = [] -> ∀ j, j < ops.size -> listed.getD j false = true := by
  intro listed hsz hr j
  induction j using Nat.strongRecOn with
  |ind j ih=>
   intro hj
   cases hl:listed.getD j false with
   |true=>rfl
   |false=>
    exfalso
    have:j∈Region.ready .any ops listed:=by
     rw [mem_ready]
     refine ⟨?_,ops[j],d6 hj,fun ed he hb=>ih ed.on (hA j _ (d6 hj) ed he hb) ?_⟩
     .have:j<listed.size:=by omega
      simp [this] at hl ⊢
      exact hl
     .have:=hA j _ (d6 hj) ed he hb
      omega
    rw [hr] at this
    cases this
 have hend:∀ (listed:Array Bool) (s':AS) (E:En) (a:Act),listed.size=ops.size->Region.ready .any ops listed=[]->(∀ t,s'.get t=gl D e s (fun j=>listed.getD j false) ops.size t)->
   (∀ r,s'.row r=rl e s (fun j=>listed.getD j false) ops.size r)->Sim G n s' E a->Ext E0 E->Q' .normal a E.w:=by
  intro listed s' E a hsz hr hg hrr i x
  have hall:=hfull listed hsz hr
  refine hk s' E a (funext fun t=>?_) (funext fun r=>?_) i x
  .rw [hg,DM (ap _) (fun j hj _=>hall j hj) (fun j h1 h2=>by omega)]
  .rw [hrr,yB (ap _) (fun j hj _=>hall j hj) (fun j h1 h2=>by omega)]
 intro fuel
 induction fuel with
 |zero=>
  intro listed s' E a hf hsz hdc hg hrr i x
  have hr:Region.ready .any ops listed=[]:=by
   refine List.eq_nil_iff_forall_not_mem.2 fun j hj=>?_
   obtain ⟨h0,o,ho,_⟩:=mem_ready.1 hj
   have hlt:=(cq.1 ho).1
   have hl:listed.getD j false=false:=by
    have:j<listed.size:=by omega
    simp [this] at h0 ⊢
    exact h0
   have:=nU (L:=fun j=>listed.getD j false) hlt hl
   omega
  exact ⟨hr,hend listed s' E a hsz hr hg hrr i x⟩
 |succ fuel ih=>
  intro listed s' E a hf hsz hdc hg hrr i x
  refine ⟨fun hr=>hend listed s' E a hsz hr hg hrr i x,fun k hk'=>?_⟩
  obtain ⟨h0,o,ho,hall⟩:=mem_ready.1 hk'
  have hlt:=(cq.1 ho).1
  generalize hLd:(fun j=>listed.getD j false)=L at hf hdc hg hrr
  have hLk:L k=false:=by
   rw [<- hLd]
   have:k<listed.size:=by omega
   simp [this] at h0 ⊢
   exact h0
  have hpre:∀ ed∈o.after,Region.binds .any ed=true->L ed.on=true:=fun ed he hb=>by rw [<- hLd];exact hall ed he hb
  have hpl:LK ops (fW L k):=by
   intro j o' ho' hj ed he hb
   unfold fW at hj ⊢
   split
   .rfl
   .split at hj
    .rename_i e
     subst e
     rw [ho] at ho'
     injection ho' with ho'
     subst ho'
     exact hpre ed he hb
    .exact hdc j o' ho' hj ed he hb
  have hbef:∀ i,f6 ops i k->i≠k->L i=true:=fun i hb hne=>by
   have:=hb _ hpl (by simp [fW])
   simpa [fW,hne] using this
  have haft:∀ j,f6 ops k j->L j=false:=fun j hb=>by
   cases hj:L j with
   |false=>rfl
   |true=>
    have:=hb _ hdc hj
    rw [hLk] at this
    cases this
  have hnew:(fun j=>(listed.setIfInBounds k true).getD j false)=fW L k:=by
   funext j
   rw [<- hLd]
   unfold fW
   split
   .rename_i e
    subst e
    have:j<listed.size:=by omega
    simp [this]
   .rename_i hne
    exact getD_set_ne false (Ne.symm hne)
  -- slots
  have hopj:∀ j t,D j=some t->∃ oj,ops[j]? =some oj/\oj.dst=some t:=fun j t hd=>by
   cases hoj:ops[j]? with
   |none=>rw [hDn j hoj] at hd;cases hd
   |some oj=>exact ⟨oj,rfl,by rw [<- hD j oj hoj];exact hd⟩
  have hsee:∀ t∈o.looksAt ops,s'.get t=(iZ D e s k).get t:=by
   intro t ht
   rw [hg]
   refine DM (Nat.le_of_lt hlt) (fun j hj hd=>?_) (fun j h1 h2 hd=>?_)
   .obtain ⟨oj,hoj,hdj⟩:=hopj j t hd
    rcases hB j k oj o hj hoj ho with h|h
    .exact absurd ht ((Oper.apart_spec h).1 t hdj)
    .exact hbef j h (by omega)
   .by_cases hjk:j=k
    .subst hjk;exact hLk
    .obtain ⟨oj,hoj,hdj⟩:=hopj j t hd
     rcases hB k j o oj (by omega) ho hoj with h|h
     .exact absurd ht ((Oper.apart_spec h).2.2 t hdj)
     .exact haft j h
  have hrow:∀ r,r∈F k\/r∈(e k).wr.map (·.1)->s'.row r=(iZ D e s k).row r:=by
   intro r hr
   rw [hrr]
   refine yB (Nat.le_of_lt hlt) (fun j hj hd=>?_) (fun j h1 h2 hd=>?_)
   .exact hbef j (hC j k r hj hlt (.inl ⟨hd,hr⟩)) (by omega)
   .by_cases hjk:j=k
    .subst hjk;exact hLk
    .exact haft j (hC k j r (by omega) h2 (.inr ⟨hd,hr⟩))
  have hgl:∀ t,(s'.apply o.dst (e k)).get t=gl D e s (fW L k) ops.size t:=by
   intro t
   rw [PI hlt fun j h1 h2 hdj hdk=>by
    obtain ⟨oj,hoj,hj⟩:=hopj j t hdj
    rcases hB k j o oj h1 ho hoj with h|h
    .exact absurd hj ((Oper.apart_spec h).2.1 t (by rw [<- hD k o ho];exact hdk))
    .exact haft j h]
   rw [hD k o ho,<- hg t]
   simp only [AS.apply]
   cases hd:o.dst with
   |none=>simp [AS.get_put_none,AS.get_wr]
   |some d=>
    rw [AS.get_put]
    simp only [ao,AS.get_wr]
    by_cases h:t=d
    .subst h;simp
    .rw [if_neg h,if_neg (fun e=>h e.symm)]
  have hrl:∀ r,(s'.apply o.dst (e k)).row r=rl e s (fW L k) ops.size r:=by
   intro r
   rw [FC hlt hLk fun j h1 h2 hj hk2=>haft j (hC k j r h1 h2 (.inl ⟨hk2,.inr hj⟩))]
   simp only [AS.apply]
   rw [AS.row_put,AS.row_wr]
   exact dA _ _ _ r (hrr r)
  obtain ⟨hdst,hstep⟩:=hst k o ho
  have hcount:tK ops.size (fW L k)<=fuel:=by
   have:=nU (L:=L) hlt hLk
   omega
  have next:∀ E' a',Sim G n (s'.apply o.dst (e k)) E' a'->Ext E E'->wpAnyIn BJ 0 P .any ops Q' fuel (listed.setIfInBounds k true) a' E'.w:=by
   intro E' a' i' x'
   refine ih _ (s'.apply o.dst (e k)) E' a' (by rw [hnew];exact hcount) (by simpa using hsz) (by rw [hnew];exact hpl) (by rw [hnew];exact hgl) (by rw [hnew];exact hrl) i' (x.trans x')
  unfold wpOpIn
  rw [ho]
  simp only
  have hwant:kP ops o s'=kP ops o (iZ D e s k):=vB hsee
  rcases hstep with ⟨hw,hop⟩|⟨hw,he,hF⟩
  .rw [<- hwant] at hw
   rw [if_pos (mN i hw)]
   have hop':=(hop.moved (ops:=ops) (g':=s'.get) (rows':=s'.row) hsee hrow).astep
   rw [<- i.rows] at hop'
   exact (ES i.inv i.eval hop' fun E' v x1 i1 e1 hv=>next E' _ (i.step hdst x1 i1 e1 hv) x1)
  .rw [<- hwant] at hw
   rw [if_neg (by rw [mN i hw];simp)]
   refine ⟨fun _ _=>trivial,next E _ ?_ (Ext.refl E)⟩
   rw [he]
   exact i.skip hdst
def FY (ms:List Nat) (o:Oper):Nat:=o.after.toList.foldl (fun acc ed=>if Region.binds .any ed=true then Nat.lor (Nat.lor acc (Nat.shiftLeft 1 ed.on)) (ms.getD ed.on 0) else acc) 0
def qH:List Oper->List Nat->List Nat
 | [],ms=>ms
 |o::l,ms=>qH l (ms++[FY ms o])
def pE (ops:Array Oper):List Nat:=qH ops.toList []
def HA (ops:Array Oper) (ms:List Nat):Prop:=∀ j,j<ms.length->∀ i,(ms.getD j 0).testBit i=true->f6 ops i j
theorem QR {ms:List Nat} {o:Oper} (hm:HA ops ms) (ho:ops[ms.length]? =some o) (hlt:∀ ed∈o.after,Region.binds .any ed=true->ed.on<ms.length) {i:Nat} (h:(FY ms o).testBit i=true):f6 ops i ms.length:=by
 have gen:∀ (l:List Edge) (acc:Nat),(∀ ed∈l,ed∈o.after)->(acc.testBit i=true->f6 ops i ms.length)->
   (l.foldl (fun acc ed=>if Region.binds .any ed=true then Nat.lor (Nat.lor acc (Nat.shiftLeft 1 ed.on)) (ms.getD ed.on 0) else acc) acc).testBit i=true->f6 ops i ms.length:=by
  intro l
  induction l with
  |nil=>intro acc _ h1 h2;exact h1 h2
  |cons ed l ih=>
   intro acc hl h1 h2
   rw [gr] at h2
   refine ih _ (fun x hx=>hl x (by simp [hx])) ?_ h2
   intro h3
   split at h3
   .rename_i hb
    have hmem:=hl ed (by simp)
    have hon:f6 ops ed.on ms.length:=fun L hd hL=>hd _ o ho hL ed hmem hb
    have e3:((acc ||| 1 <<< ed.on) ||| ms.getD ed.on 0).testBit i=true:=h3
    rw [Nat.testBit_or,Nat.testBit_or] at e3
    simp only [eg] at e3
    rcases e3 with (h4|h4)|h4
    .exact h1 h4
    .rw [Nat.one_shiftLeft,Nat.testBit_two_pow] at h4
     have:ed.on=i:=by simpa using h4
     subst this
     exact hon
    .exact fun L hd hL=>hm ed.on (hlt ed hmem hb) i h4 L hd (hon L hd hL)
   .exact h1 h3
 exact gen o.after.toList 0 (fun ed h=>by simpa using h) (by simp) h
theorem rT (hA:∀ (j:Nat) (o:Oper),ops[j]? =some o->∀ ed∈o.after,Region.binds .any ed=true->ed.on<j):∀ (l:List Oper) (ms:List Nat),HA ops ms->(∀ i o,l[i]? =some o->ops[ms.length+i]? =some o)->HA ops (qH l ms)/\(qH l ms).length=ms.length+l.length
 | [],ms,h,_=>⟨h,by simp [qH]⟩
 |o::l,ms,h,hl=>by
  simp only [qH]
  have ho:ops[ms.length]? =some o:=hl 0 o rfl
  have h1:HA ops (ms++[FY ms o]):=by
   intro j hj i hb
   by_cases hlt:j<ms.length
   .rw [bc,eo hlt,<- bc] at hb
    exact h j hlt i hb
   .have:j=ms.length:=by simp at hj;omega
    subst this
    rw [bc,List.getElem?_append_right (ap _)] at hb
    simp at hb
    exact QR h ho (fun ed he hbd=>hA _ o ho ed he hbd) hb
  obtain ⟨h2,h3⟩:=rT hA l (ms++[FY ms o]) h1 fun i o' hi=>by
   have:=hl (i+1) o' (by simpa using hi)
   simp only [an,am]
   rw [Nat.add_assoc,Nat.add_comm 1 i]
   exact this
  exact ⟨h2,by rw [h3];simp;omega⟩
def jG (ops:Array Oper):Bool:=
 (List.range ops.size).all fun j=>match ops[j]? with
  |none=>true
  |some oj=>oj.after.all (fun ed=> !Region.binds .any ed || decide (ed.on<j))&&(List.range j).all fun i=>match ops[i]? with
   |none=>true
   |some oi=>oi.apart ops oj || ((pE ops).getD j 0).testBit i
def GO (a b:List Nat):Bool:=a.all fun x=> !b.contains x
def FA (ops:Array Oper) (acc:eV):Bool:=
 let l:=acc.reverse
 (List.range l.length).all fun j=>(List.range j).all fun i=>((pE ops).getD j 0).testBit i || match l[i]?,l[j]? with
  |some (fi,wi),some (fj,wj)=>GO wi fj&&GO wi wj&&GO wj fi
  |_,_=>true
def BL (acc:eV):Bool:=acc.all fun p=>p.2.isEmpty
def KQ (ops:Array Oper):Option eV->Prop
 |some acc=>BL acc=true\/FA ops acc=true
 |none=>False
theorem kM (F:Nat->List Nat) (e:Nat->eL):∀ N,(oM F e N []).length=N
 |0=>rfl
 |N+1=>by simp [oM,kM F e N]
theorem jF (F:Nat->List Nat) (e:Nat->eL):∀ N i,i<N->(oM F e N []).reverse[i]? =some (F i,(e i).wr.map (·.1))
 |0,i,h=>by omega
 |N+1,i,h=>by
  simp only [oM,List.reverse_cons]
  by_cases hi:i<N
  .rw [eo (by simpa [kM] using hi)]
   exact jF F e N i hi
  .have:i=N:=by omega
   subst this
   rw [List.getElem?_append_right (by simp [kM])]
   simp [kM]
theorem g7 {a b:List Nat} (h:GO a b=true) {r:Nat} (h1:r∈a) (h2:r∈b):False:=by
 simp only [GO,cl] at h
 have:=h r h1
 simp [h2] at this
theorem GZ [i6] {k rid:Nat} {Q:Exit->AS->Prop} {s:AS} (hm:P.follows .mixedOrders=true) (hs:jG ops=true) (h:bG P G n (fun m s'=>KQ ops m/\Q .normal s') (fQ ops) (some []) s):cG P G n k (.region rid ops true) Q s:=fun E a i=>by
 obtain ⟨e,F,h1,h2,h3⟩:=xI (ops:=ops) ops.toList s [] h
 simp only [jG,cl,gg] at hs
 have hA:∀ (j:Nat) (o:Oper),ops[j]? =some o->∀ ed∈o.after,Region.binds .any ed=true->ed.on<j:=by
  intro j o ho ed he hb
  have:=hs j (cq.1 ho).1
  rw [ho] at this
  simp only [ae,Array.all_eq_true_iff_forall_mem] at this
  have:=this.1 ed he
  simpa [hb] using this
 have hM:=(rT hA ops.toList [] (fun j hj=>by simp at hj) (fun i o ho=>by simpa using ho))
 have hMl:(pE ops).length=ops.size:=by have:=hM.2;simpa [pE] using this
 have hbit:∀ i j,j<ops.size->((pE ops).getD j 0).testBit i=true->f6 ops i j:=fun i j hj hb=>hM.1 j (by unfold pE at hMl;omega) i hb
 have hB:∀ (i j:Nat) (oi oj:Oper),i<j->ops[i]? =some oi->ops[j]? =some oj->oi.apart ops oj=true\/f6 ops i j:=by
  intro i j oi oj hij hi hj
  have hlt:=(cq.1 hj).1
  have:=hs j hlt
  rw [hj] at this
  simp only [ae,cl,gg] at this
  have:=this.2 i hij
  rw [hi] at this
  simp only [eg] at this
  exact this.imp (fun h=>h) (hbit i j hlt)
 have hC:∀ (i j r:Nat),i<j->j<ops.size->(eW e i r/\(r∈F j\/eW e j r))\/(eW e j r/\(r∈F i\/eW e i r))->f6 ops i j:=by
  intro i j r hij hj hw
  have hl:ops.toList.length=ops.size:=by simp
  rw [hl] at h2
  have gi:=jF F e ops.size i (by omega)
  have gj:=jF F e ops.size j hj
  rcases h2 with h2|h2
  .exfalso
   simp only [BL,cl] at h2
   have mi:=h2 _ (by have:=aj gi;simpa using this)
   have mj:=h2 _ (by have:=aj gj;simpa using this)
   simp at mi mj
   simp only [eW,mi,mj] at hw
   simp at hw
  .simp only [FA,cl,gg,List.length_reverse,kM] at h2
   have:=h2 j hj i hij
   rw [gi,gj] at this
   simp only [eg,ae] at this
   rcases this with h|⟨⟨d1,d2⟩,d3⟩
   .exact hbit i j hj h
   .exfalso
    rcases hw with ⟨w1,w2|w2⟩|⟨w1,w2|w2⟩
    .exact g7 d1 w1 w2
    .exact g7 d2 w1 w2
    .exact g7 d3 w1 w2
    .exact g7 d2 w2 w1
 have hlist:∀ (i:Nat) (o:Oper),ops[i]? =some o->ops.toList[i]? =some o:=fun i o ho=>by simpa using ho
 refine wpIn_region_any hm ?_
 have hst:=oX i.inv { E.w with drawn:=E.w.drawn+1 } E.S rfl rfl rfl (ap _) (fun b hb=>rfl) (fun b hb=>hb) (fun b hb=>.inl hb)
 have i1:Sim G n s ⟨{ E.w with drawn:=E.w.drawn+1 },E.S,E.ρ,E.rows⟩ a:=⟨hst.2,i.rows,i.sz,fun t=>(i.tm t).ext i.inv hst.1,i.df.ext hst.1⟩
 refine aBl (Q':=fun e a' w'=>∃ s' E',w'=E'.w/\ExtK k E E'/\Sim G n s' E' a'/\Q e s') (n:=n) (s:=s) (E0:=⟨{ E.w with drawn:=E.w.drawn+1 },E.S,E.ρ,E.rows⟩) (e:=e) (F:=F) (D:=fun i=>(ops.toList[i]?).bind (·.dst))
  (fun i o ho=>by simp only [hlist i o ho,ij]) (fun i hi=>by
   have:ops.toList[i]? =none:=by simpa using hi
   simp only [this,Option.bind_none]) (fun i o ho=>h1 i o (hlist i o ho)) hA hB hC ?_
  ops.size (Array.replicate ops.size false) s ⟨{ E.w with drawn:=E.w.drawn+1 },E.S,E.ρ,E.rows⟩ a ?_ (by simp) ?_ ?_ ?_ i1 (Ext.refl _)
 .intro s' E' a' hg hr hsim x
  have e1:ops.toList.length=ops.size:=by simp
  rw [e1] at h3
  exact ⟨_,E',rfl,(hst.1.trans x).toK k,hsim.congr hg.symm hr.symm,h3⟩
 .have:=List.countP_le_length (p:=fun i=> !(Array.replicate ops.size false).getD i false) (l:=List.range ops.size)
  simpa [tK] using this
 .intro j o _ hj
  simp [io] at hj
  split at hj<;>simp at hj
 .intro t
  rw [DM (az _) (fun j hj=>by omega) (fun j _ _ _=>by simp [io];split<;>rfl)]
  rfl
 .intro r
  rw [yB (D:=fun _=>none) (az _) (fun j hj=>by omega) (fun j _ _ _=>by simp [io];split<;>rfl)]
  rfl
end
end Go.AM
namespace Go.AM
mutual
theorem Lend.tree {rows:Nat->ARow} {fp:List Nat}:∀ {a b:AV},Lend rows fp a b->aI aE b=true
 |_,_,.same h=>h
 |_,_,.full h=>by simpa only [aI] using h
 |_,_,.rsv=>rfl
 |_,_,.toRsv=>rfl
 |_,_,.osl _ _ _ _ _ ht=>by simpa only [aI] using ht
 |_,_,.ptr _ _ hl=>by simpa only [aI] using LendL.tree hl
 |_,_,.omp _ _ hk hv=>by simp only [aI,hk,hv,ai]
 |_,_,.fn ha hb=>by simp only [aI,LendL.tree ha,LendL.tree hb,ai]
 |_,_,.agg h=>by simpa only [aI] using LendL.tree h
 |_,_,.weak h=>by rw [uS];exact Lend.tree h
 |_,_,.sle h=>by simpa only [aI] using LendE.tree h
theorem LendL.tree {rows:Nat->ARow} {fp:List Nat}:∀ {a b:List AV},LendL rows fp a b->aP aE b=true
 |_,_,.nil=>by simp [aP]
 |_,_,.cons h hs=>by simp only [aP,Lend.tree h,LendL.tree hs,ai]
theorem LendE.tree {rows:Nat->ARow} {fp:List Nat}:∀ {a b:List (List AV)},LendE rows fp a b->cQ aE b=true
 |_,_,.nil=>rfl
 |_,_,.cons h hs=>by simp only [cQ,LendL.tree h,LendE.tree hs,ai]
end
mutual
theorem lB:∀ (c:AV),aI (fun _=>true) c=true
 | .undef=>by simp [aI]
 | .bool _=>by simp [aI]
 | .int _ _=>by simp [aI]
 | .str _=>by simp [aI]
 | .agg cs=>by simp only [aI];exact cT cs
 | .tup cs=>by simp only [aI];exact cT cs
 | .sl f es=>by simp only [aI];exact zL es
 | .osl r _ _ _ _ _=>by simp [aI]
 | .rsl r _ _ _ _=>by simp [aI]
 | .rsv _=>by simp [aI]
 | .ptr r _ _=>by simp [aI]
 | .imm cs=>by simp only [aI];exact cT cs
 | .nilptr=>by simp [aI]
 | .mp ks vs=>by simp only [aI,cT ks,cT vs,ai]
 | .omp r=>by simp [aI]
 | .yld r=>by simp [aI]
 | .fn f a b=>by simp only [aI,cT a,cT b,ai]
 | .nilfn=>by simp [aI]
 | .iface t v=>by simp only [aI];exact lB v
 | .niliface=>by simp [aI]
 | .anyb=>by simp [aI]
theorem cT:∀ (cs:List AV),aP (fun _=>true) cs=true
 | []=>by simp [aP]
 |c::cs=>by simp only [aP,lB c,cT cs,ai]
theorem zL:∀ (es:List (List AV)),cQ (fun _=>true) es=true
 | []=>by simp [cQ]
 |e::es=>by simp only [cQ,cT e,zL es,ai]
end
def iD (rows:Nat->ARow) (fp:List Nat) (a b:AV):Prop:=b=a\/Lend rows fp a b
def FrzLF (F:AV->AV->Prop):List AV->List AV->Prop
 | [],[]=>True
 |a::as,b::bs=>F a b/\FrzLF F as bs
 |_,_=>False
abbrev sE (rows:Nat->ARow) (fp:List Nat):List AV->List AV->Prop:=FrzLF (iD rows fp)
theorem FrzLF.length {F:AV->AV->Prop}:∀ {xs ys:List AV},FrzLF F xs ys->ys.length=xs.length
 | [],[],_=>rfl
 |_::xs,_::ys,h=>by simp [FrzLF.length h.2]
 | [],_::_,h=>h.elim
 |_::_,[],h=>h.elim
def Q9 (F:AV->AV->Prop) (fp:List Nat) (r:Nat) (x y:ARow):Prop:=
 (r∈fp/\y=.dead/\x≠.none)\/((r ∉ fp\/x=.none)/\(y=x\/∃ ver cs cs',x=.cells ver cs/\y=.cells ver cs'/\FrzLF F cs cs'))
abbrev jW (rows:Nat->ARow) (fp:List Nat) (r:Nat) (x y:ARow):Prop:=Q9 (iD rows fp) fp r x y
theorem Sim.freezeF [i6] {G:Nat->Option (List AV)} {n k:Nat} {s s':AS} {E:En} {a:Act} (i:Sim G n s E a) (fp:List Nat) (F:AV->AV->Prop)
  (hF:∀ E',eY (fun _=>true) E E'->(∀ r∈fp,(E.rows r).live=true->E'.S (E.ρ r))->∀ {x y:AV} {u:Value},F x y->Rel E x u->Rel E' y u)
  (hg:∀ t,s'.get t=.undef\/F (s.get t) (s'.get t)) (hr:∀ r,Q9 F fp r (s.row r) (s'.row r)):
  ∃ E',E'.w=E.w/\ExtK k E E'/\Sim G n s' E' a:=by
 let E':En:=⟨E.w,fun b=>E.S b\/∃ r∈fp,(E.rows r).live=true/\b=E.ρ r,E.ρ,s'.row⟩
 have hrow:∀ r,s.row r=E.rows r:=fun r=>by rw [i.rows]
 have hlive:∀ r,(E'.rows r).live=true->(E.rows r).live=true:=fun r h=>by
  rcases hr r with ⟨_,e,_⟩|⟨_,e|⟨ver,cs,cs',e1,e2,_⟩⟩
  .simp only [E',e] at h;cases h
  .simp only [E',e,hrow] at h;exact h
  .rw [<- hrow,e1];rfl
 have hnfp:∀ r,(E'.rows r).live=true->r ∉ fp:=fun r h=>by
  rcases hr r with ⟨_,e,_⟩|⟨h1|h1,h2⟩
  .simp only [E',e] at h;cases h
  .exact h1
  .have:=hlive r h
   rw [<- hrow,h1] at this;cases this
 have hcase:∀ r,E'.rows r=E.rows r\/E'.rows r=.dead\/∃ ver cs cs',E.rows r=.cells ver cs/\E'.rows r=.cells ver cs'/\FrzLF F cs cs':=fun r=>by
  rcases hr r with ⟨_,e,_⟩|⟨_,e|⟨ver,cs,cs',e1,e2,e3⟩⟩
  .exact .inr (.inl e)
  .exact .inl (by simp only [E',e,hrow])
  .exact .inr (.inr ⟨ver,cs,cs',by rw [<- hrow];exact e1,e2,e3⟩)
 have ag:eY (fun _=>true) E E':=⟨rfl,fun _ h=>.inl h,fun r _=>by
  rcases hcase r with h|h|⟨ver,cs,cs',h1,h2,_⟩
  .exact .inl h
  .exact .inr (.inl h)
  .exact .inr (.inr ⟨ver,cs,cs',h1,h2⟩),fun r _ _=>rfl⟩
 have hfz:∀ {x y:AV} {u:Value},F x y->Rel E x u->Rel E' y u:=hF E' ag fun r h1 h2=>.inr ⟨r,h1,h2,rfl⟩
 have hfzl:∀ {xs ys:List AV} {us:List Value},FrzLF F xs ys->RelL E xs us->RelL E' ys us:=by
  intro xs
  induction xs with
  |nil=>intro ys us h hx;cases ys with
   |nil=>simpa only [RelL] using hx
   |cons=>exact h.elim
  |cons x xs ih=>intro ys us h hx;cases ys with
   |nil=>exact h.elim
   |cons y ys=>
    simp only [RelL] at hx ⊢
    obtain ⟨v,rest,h1,h2,h3⟩:=hx
    exact ⟨v,rest,h1,hfz h.1 h2,ih h.2 h3⟩
 refine ⟨E',rfl,?_,?_⟩
 .refine ⟨rfl,rfl,rfl,ap _,fun _ h=>.inl h,fun b _ hl=>⟨rfl,fun h=>?_⟩,fun r _ h=>?_,fun r _ ver cs h=>?_,fun r _ h=>?_,fun r h=>.inl ⟨hlive r h,rfl⟩⟩
  .rcases h with h|⟨r,_,h2,rfl⟩
   .exact h
   .exact absurd rfl (hl r h2)
  .rcases hcase r with h1|h1|⟨ver,cs,cs',h1,h2,_⟩
   .rw [h1];exact h
   .exact h1
   .rw [h] at h1;cases h1
  .rcases hcase r with h1|h1|⟨ver',cs0,cs',h1,h2,_⟩
   .exact .inr ⟨ver,cs,by rw [h1];exact h,ap _,fun _=>⟨rfl,fun cur e fz hc=>⟨cur,e,hc,rfl⟩⟩⟩
   .exact .inl h1
   .rw [h] at h1
    injection h1 with h3 h4
    subst h3
    exact .inr ⟨ver,cs',h2,ap _,fun _=>⟨rfl,fun cur e fz hc=>⟨cur,e,hc,rfl⟩⟩⟩
  .rcases hcase r with h1|h1|⟨ver,cs,cs',h1,h2,_⟩
   .exact .inr ⟨by rw [h1];exact h,rfl⟩
   .exact .inl h1
   .rw [h1] at h;cases h
 .refine ⟨⟨fun r=>?_,fun r r' h h' hne=>i.inv.inj r r' (hlive r h) (hlive r' h') hne,fun b hb=>?_,fun g cs hg'=>?_⟩,rfl,i.sz,fun t=>?_,DefOK.of (E:=E) (E':=E') (ap _) (fun b _ hl=>⟨rfl,fun h=>h.elim id fun ⟨r,_,h2,h3⟩=>absurd h3.symm (hl r h2)⟩) (fun r hr=>.inl ⟨hlive r hr,rfl⟩) i.df⟩
  .have h0:=i.inv.row r
   by_cases hl:(E'.rows r).live=true
   .have hne:=hnfp r hl
    have hS:¬ E.S (E.ρ r)->¬ E'.S (E.ρ r):=fun h1 h2=>by
     rcases h2 with h2|⟨r',h3,h4,h5⟩
     .exact h1 h2
     .by_cases e:r=r'
      .subst e;exact hne h3
      .exact i.inv.inj r r' (hlive r hl) h4 e h5
    unfold RowOK at h0 ⊢
    rcases hcase r with h1|h1|⟨ver,cs,cs',h1,h2,h3⟩
    .rw [h1]
     cases hrr:E.rows r with
     |none=>trivial
     |dead=>trivial
     |cells ver cs=>
      rw [hrr] at h0
      obtain ⟨cur,e,vs,a1,a2,a3,a4⟩:=h0
      exact ⟨cur,e,vs,a1,hS a2,a3.agree ag (cT cs),a4⟩
     |map ks vs=>
      rw [hrr] at h0
      obtain ⟨es,clock,a1,a2,a3,a4,a5⟩:=h0
      exact ⟨es,clock,a1,hS a2,a3,a4.agree ag (cT ks),a5.agree ag (cT vs)⟩
     |iter ks vs l j=>
      rw [hrr] at h0
      obtain ⟨mb,es,clock,since,seen,a1,a2,a3,a4,a5,a6,a7,a8,a9⟩:=h0
      exact ⟨mb,es,clock,since,seen,a1,hS a2,.inl a3,a4,a5,a6,a7.agree ag (cT ks),a8.agree ag (cT vs),a9⟩
     |loop st pend fr ps asg body=>
      rw [hrr] at h0
      obtain ⟨fn,tm,D,a1,a2,a3⟩:=h0
      exact ⟨fn,tm,D,a1,hS a2,a3.agree ag (cT fr)⟩
    .rw [h1] at hl;cases hl
    .rw [h1] at h0
     rw [h2]
     obtain ⟨cur,e,vs,a1,a2,a3,a4⟩:=h0
     exact ⟨cur,e,vs,a1,hS a2,hfzl h3 a3,by rw [h3.length];exact a4⟩
   .unfold RowOK
    cases hrr:E'.rows r with
    |none=>trivial
    |dead=>trivial
    |cells ver cs=>rw [hrr] at hl;exact absurd rfl hl
    |map ks vs=>rw [hrr] at hl;exact absurd rfl hl
    |iter ks vs l j=>rw [hrr] at hl;exact absurd rfl hl
    |loop st pend fr ps asg body=>rw [hrr] at hl;exact absurd rfl hl
  .rcases hb with h|⟨r,_,h2,rfl⟩
   .exact i.inv.sb b h
   .exact (i.inv.live h2).1
  .obtain ⟨vs,a1,a2,a3⟩:=i.inv.glob g cs hg'
   exact ⟨vs,.inl a1,a2.agree ag (cT cs),a3⟩
  .rcases hg t with h|h
   .rw [h];simp [Rel]
   .exact hfz h (i.tm t)
theorem Sim.freeze [i6] {G:Nat->Option (List AV)} {n k:Nat} {s s':AS} {E:En} {a:Act} (i:Sim G n s E a) (fp:List Nat)
  (hg:∀ t,s'.get t=.undef\/iD s.row fp (s.get t) (s'.get t)) (hr:∀ r,jW s.row fp r (s.row r) (s'.row r)):
  ∃ E',E'.w=E.w/\ExtK k E E'/\Sim G n s' E' a:=
 i.freezeF fp (iD s.row fp) (fun E' ag hS x y u h hx=>by
  have agl:eY aE (mF E fp) E':=⟨ag.w,fun b h=>h.elim (ag.S b) fun ⟨r,h1,h2,h3⟩=>h3 ▸ hS r h1 h2,fun r h=>(by cases h),fun r h=>(by cases h)⟩
  rcases h with rfl|h
  .exact hx.agree ag (lB y)
  .exact (Lend.rel i.inv (fun r _=>by rw [i.rows]) h hx).agree agl h.tree) hg hr
def dL (s:AS) (fp:List Nat):List (Nat × AV)->Prop
 | []=>True
 |p::l=>iD s.row fp (s.get p.1) p.2/\dL s fp l
def Z8 (s:AS) (fp:List Nat):Nat->List ARow->List ARow->Prop
 |_,[],[]=>True
 |k,x::xs,y::ys=>jW s.row fp k x y/\Z8 s fp (k+1) xs ys
 |_,_,_=>False
theorem K8 {s:AS} {fp:List Nat}:∀ (k:Nat) (xs ys:List ARow),Z8 s fp k xs ys->(∀ r∈fp,r<k+xs.length)->∀ i,jW s.row fp (k+i) (xs.getD i .none) (ys.getD i .none)\/(xs.getD i .none=.none/\ys.getD i .none=.none/\k+i ∉ fp)
 |k,[],[],_,hf,i=>.inr ⟨by simp,by simp,fun h=>by have:=hf _ h;simp at this;omega⟩
 |k,x::xs,y::ys,h,hf,0=>.inl (by simpa using h.1)
 |k,x::xs,y::ys,h,hf,i+1=>by
  have:=K8 (k+1) xs ys h.2 (fun r hr=>by have:=hf r hr;simp at this;omega) i
  simpa [Nat.add_assoc,Nat.add_comm 1 i] using this
 |_,[],_::_,h,_,_=>h.elim
 |_,_::_,[],h,_,_=>h.elim
section
variable [i6] {P:Program} {G:Nat->Option (List AV)} {n k:Nat} {Q:Exit->AS->Prop} {s:AS}
end
end Go.AM
namespace Go.AM
section
variable {P:Program} {G:Nat->Option (List AV)} {n:Nat} {K:Option eV->AS->Prop} {d:Option Tmp} {rest:List nA} {m:Option eV} {s:AS}
theorem ID {x:Operand} {args:Array Operand} {ts:Array TypeId}:aV P G n K d rest m s (.call ⟨.value x,args,ts⟩)=bL P G n K d rest m s (args.toList.map (d8 G s.get)) (d8 G s.get x):=by
 refine propext ⟨fun h=>?_,XD⟩
 unfold aV MA at h
 obtain ⟨eff,fp,h1,h2⟩:=h
 unfold OpC fX lO at h1
 cases hx:d8 G s.get x with
 |fn f a b=>
  cases f with
  |func f=>
   simp only [hx] at h1
   exact ⟨eff,fp,h1,h2⟩
  |_=>simp only [hx,pT] at h1;exact absurd h1.1 (by simp)
 |yld r=>
  simp only [hx] at h1
  exact ⟨eff,fp,h1,h2⟩
 |_=>simp only [hx,pT] at h1;exact absurd h1.1 (by simp)
theorem DF {op:Op}:aQ P G n K d rest m s op true (.bool true)=aV P G n K d rest m s op:=by simp [aQ]
theorem DH {op:Op}:aQ P G n K d rest m s op true (.bool false)=bG P G n K rest (lM m [] []) (s.put d (.tup [])):=by simp [aQ]
theorem DJ {op:Op}:aQ P G n K d rest m s op false (.bool false)=aV P G n K d rest m s op:=by simp [aQ]
theorem DI {op:Op}:aQ P G n K d rest m s op false (.bool true)=bG P G n K rest (lM m [] []) (s.put d (.tup [])):=by simp [aQ]
theorem JX {op:Op} {want b:Bool} (ht:b=true->aQ P G n K d rest m s op want (.bool true)) (hf:b=false->aQ P G n K d rest m s op want (.bool false)):aQ P G n K d rest m s op want (.bool b):=by
 cases b
 .exact hf rfl
 .exact ht rfl
@[congr] theorem aBz {m':Option eV} {s':AS} (hm:m=m') (hs:s=s'):bG P G n K rest m s=bG P G n K rest m' s':=by rw [hm,hs]
@[congr] theorem aAi {op:Op} {m':Option eV} (hm:m=m'):aV P G n K d rest m s op=aV P G n K d rest m' s op:=by rw [hm]
@[congr] theorem aBq {o o':Option AV} {fp fp':List Nat} (ho:o=o') (hf:fp=fp'):bZ P G n K d rest m fp s o=bZ P G n K d rest m fp' s o':=by rw [ho,hf]
@[congr] theorem aBD {o o':Option eL} {fp fp':List Nat} (ho:o=o') (hf:fp=fp'):bW P G n K d rest m fp s o=bW P G n K d rest m fp' s o':=by rw [ho,hf]
@[congr] theorem ZL {op:Op} {want:Bool} {x x':AV} (hx:x=x'):aQ P G n K d rest m s op want x=aQ P G n K d rest m s op want x':=by rw [hx]
@[congr] theorem aBd {args args':List AV} {x x':AV} (ha:args=args') (hx:x=x'):bL P G n K d rest m s args x=bL P G n K d rest m s args' x':=by rw [ha,hx]
@[congr] theorem aBe {f:FuncId} {args args':List AV} (ha:args=args'):bI P G n K d rest m s f args=bI P G n K d rest m s f args':=by rw [ha]
@[congr] theorem aAH {x x':AV} (hx:x=x'):bN P G n K d rest m s x=bN P G n K d rest m s x':=by rw [hx]
@[congr] theorem aCA [i6] {k:Nat} {c:Code} {Q:Exit->AS->Prop} {s':AS} (hs:s=s'):cG P G n k c Q s=cG P G n k c Q s':=by rw [hs]
theorem bO {f:FuncId} {args:List AV} {res:AV} (hG:∀ g cs,G g=some cs->aP aE cs=true) (h:Pure P G f args res) (hk:bG P G n K rest (lM m [] []) (s.put d res)):bI P G n K d rest m s f args:=
 ⟨⟨res,[]⟩,[],h.2 _,hk⟩
end
theorem TW {h:Nat}:((none:Option Nat)==some h)=false:=rfl
theorem TX:((none:Option Nat)==none)=true:=rfl
theorem TV {h:Nat}:(some h==(none:Option Nat))=false:=rfl
theorem TU {m h:Nat}:(some m==some h)=(m==h):=rfl
theorem E6 {ops:Array Oper} {acc:eV}:KQ ops (some acc)=(BL acc=true\/FA ops acc=true):=rfl
theorem JA:BL []=true:=rfl
theorem yY {f:List Nat} {acc:eV}:BL ((f,[])::acc)=BL acc:=by simp [BL]
theorem yX {f w:List Nat} {x:Nat} {acc:eV}:BL ((f,x::w)::acc)=false:=by simp [BL]
theorem Pure.wk {P:Program} {G:Nat->Option (List AV)} {f:FuncId} {args:List AV} {res:AV} (h:Pure P G f args res):Pure P G f args (AM.wk res):=by
 refine ⟨by rw [uS];exact h.1,fun rows=>?_⟩
 obtain ⟨h1,h2,h3⟩:=h.2 rows
 refine ⟨h1,by simp,fun E us i hE hus=>(h3 E us i hE hus).mono fun e w' ⟨v,E',a1,a2,a3,a4⟩=>⟨v,E',a1,a2,a3.wk,a4⟩⟩
theorem Pure.lend {P:Program} {G:Nat->Option (List AV)} {f:FuncId} {args targs:List AV} {res:AV} (hG:∀ g cs,G g=some cs->aP aE cs=true) (h:Pure P G f targs res) (hl:LendL (fun _=>.none) [] args targs):Pure P G f args res:=
 ⟨h.1,fun rows=>by
  obtain ⟨h1,h2,h3⟩:=AT hG h hl (.inl rfl)
  exact ⟨h1,h2,fun E us i hE hus=>h3 E us i (by simp) hus⟩⟩
end Go.AM
namespace Go.AM
def u3 (P:Program) (t u:TypeId):Option (Nat × Nat):=
 match fN P t with
 |some e=>match b5 P e,cJ P e,(b6 P e).bind AV.toCells with
  |some sz,some by',some z=>if gM P u=true/\z.length=sz then some (sz,by') else none
  |_,_,_=>none
 |none=>none
section
variable {P:Program} {G:Nat->Option (List AV)} {n:Nat} {K:Option eV->AS->Prop} {d:Option Tmp} {rest:List nA} {m:Option eV} {fp:List Nat} {s:AS} {t u:TypeId} {sz by':Nat} {x:AV} {rows:Nat->ARow} {nb mm:Nat} {new:List AV}
theorem lI (h : u3 P t u = some (sz, by')) (v : AV) (hs : cW sz x rows = some (mm, new)) :
  eP P t u v x rows nb = match v with
    | .sl full es=>
     if full=true/\es.all (fun e=>e.length=sz)/\(es.length+mm)*(by'+1)<=140737488355328 then
      (if mm=0 then some ⟨v,[]⟩ else match rows nb with| .none=>some ⟨.osl nb 0 0 (es.length+mm) sz false,[(nb,.cells 0 (es.flatten++new))]⟩|_=>none)
     else none
    | .osl r ver off n sz' full=>match aU rows r ver with
     |none=>none
     |some cs=>
      if sz'=sz/\off+n*sz<=cs.length/\(n+mm)*(by'+1)<=140737488355328 then
       (if full=true then
        (if mm=0 then some ⟨v,[]⟩ else match rows nb with| .none=>some ⟨.osl nb 0 0 (n+mm) sz false,[(nb,.cells 0 ((cs.drop off).take (n*sz)++new))]⟩|_=>none)
       else if off=0 then some ⟨.osl r (ver+1) 0 (n+mm) sz false,[(r,.cells (ver+1) (cs.take (n*sz)++new))]⟩ else none)
      else none
    | .rsl r ver off n sz'=>match aU rows r ver with
     |none=>none
     |some cs=>
      if sz'=sz/\off=0/\mm=1/\n*sz<=cs.length then
       some ⟨.osl r ver 0 (n+1) sz false,[(r,.cells ver (cs.take (n*sz)++new++cs.drop ((n+1)*sz)))]⟩
      else none
    | .rsv r=>
     if mm*(by'+1)<=140737488355328 then
      (if mm=0 then some ⟨v,[]⟩ else match rows r with| .none=>some ⟨.osl r 0 0 mm sz false,[(r,.cells 0 new)]⟩|_=>none)
     else none
    |_=>none:=by
 unfold u3 at h
 split at h
 .rename_i e he
  split at h
  .rename_i sz0 by0 z h1 h2 h3
   split at h
   .rename_i hc
    injection h with h
    injection h with h4 h5
    subst h4 h5
    unfold eP L6
    rw [he]
    simp only [h1,h2,h3,hs]
    rw [if_pos hc]
    cases v<;>rfl
   .cases h
  .cases h
 .cases h
theorem lV {r ver len:Nat} {cs:List AV} (ht:u3 P t u=some (sz,by')) (hr:rows r=.cells ver cs) (hn:cs.length=len*sz) (hs:cW sz x rows=some (mm,new)) (hb:(len+mm)*(by'+1)<=140737488355328)
  (hk:bG P G n K rest (lM m fp [r]) ((s.wr [(r,.cells (ver+1) (cs++new))]).put d (.osl r (ver+1) 0 (len+mm) sz false))):bW P G n K d rest m fp s (eP P t u (.osl r ver 0 len sz false) x rows nb):=by
 rw [lI ht _ hs]
 have hc:aU rows r ver=some cs:=by simp [aU,hr]
 simp only [hc]
 rw [if_pos ⟨trivial,by omega,hb⟩]
 simp only [aw,if_false,if_true]
 rw [<- hn,bi]
 exact hk
theorem fO {es:List (List AV)} (ht:u3 P t u=some (sz,by')) (hr:rows nb=.none) (he:es.all (fun e=>decide (e.length=sz))=true) (hs:cW sz x rows=some (mm,new)) (hm:mm≠0) (hb:(es.length+mm)*(by'+1)<=140737488355328)
  (hk:bG P G n K rest (lM m fp [nb]) ((s.wr [(nb,.cells 0 (es.flatten++new))]).put d (.osl nb 0 0 (es.length+mm) sz false))):bW P G n K d rest m fp s (eP P t u (.sl true es) x rows nb):=by
 rw [lI ht _ hs]
 simp only []
 rw [if_pos ⟨trivial,he,hb⟩,if_neg hm,hr]
 exact hk
theorem tR {es:List (List AV)} (ht:u3 P t u=some (sz,by')) (he:es.all (fun e=>decide (e.length=sz))=true) (hs:cW sz x rows=some (0,new)) (hb:es.length*(by'+1)<=140737488355328)
  (hk:bG P G n K rest (lM m fp []) (s.put d (.sl true es))):bW P G n K d rest m fp s (eP P t u (.sl true es) x rows nb):=by
 rw [lI ht _ hs]
 simp only []
 simp only [if_true]
 rw [if_pos ⟨trivial,he,hb⟩]
 exact hk
end
theorem nH {sz:Nat} {b:Bool} {es:List (List AV)} {rows:Nat->ARow} (h:es.all (fun e=>decide (e.length=sz))=true):cW sz (.sl b es) rows=some (es.length,es.flatten):=by
 simp only [cW,h,if_true]
end Go.AM
namespace Go.AM
def hU (base:List (List AV)) (r sz:Nat) (app:List (List AV)):AV:=
 if app=[] then .sl true base else .osl r (app.length - 1) 0 (base.length+app.length) sz false
def dQ (base app:List (List AV)):ARow:=.cells (app.length - 1) (base++app).flatten
def eF (H:List ARow) (base app:List (List AV)):List ARow:=if app=[] then H else H++[dQ base app]
theorem dE {sz:Nat}:∀ {l:List (List AV)},(∀ e∈l,e.length=sz)->l.flatten.length=l.length*sz
 | [],_=>by simp
 |e::l,h=>by
  rw [cw,an,dE fun x hx=>h x (by simp [hx]),h e (by simp),af,eh]
  omega
theorem DC:∀ (H:List ARow) (x:ARow),eD H H.length x=H++[x]
 | [],x=>rfl
 |h::H,x=>by simp only [af,eD,DC H x,ar]
theorem PD:∀ (H:List ARow) (x y:ARow),eD (H++[y]) H.length x=H++[x]
 | [],x,y=>rfl
 |h::H,x,y=>by simp only [ar,af,eD,PD H x y]
theorem u6 (base:List (List AV)) (r sz:Nat) (app:List (List AV)) (e:List AV): .osl r app.length 0 (base.length+app.length+1) sz false=hU base r sz (app++[e]):=by
 simp [hU,Nat.add_assoc]
theorem v8 (base app:List (List AV)) (e:List AV):dQ base (app++[e])=.cells app.length (base++app++[e]).flatten:=by
 simp [dQ,bj]
theorem qQ (H:List ARow) (base app:List (List AV)) (e:List AV):eD (eF H base app) H.length (dQ base (app++[e]))=eF H base (app++[e]):=by
 rw [v8]
 unfold eF
 by_cases h:app=[]
 .subst h;simp [DC,dQ]
 .rw [if_neg h,PD,if_neg (by simp)]
  simp [dQ,bj]
theorem B5 (base app:List (List AV)) (e:List AV):eD (eF [] base app) 0 (dQ base (app++[e]))=eF [] base (app++[e]):=qQ [] base app e
theorem m7 (base:List (List AV)) (r sz:Nat):hU base r sz []=.sl true base:=by simp [hU]
theorem B6 (H:List ARow) (base app:List (List AV)):(app=[]->(eF H base app).getD H.length .none=.none/\(eF H base app).length=H.length)/\(app≠[]->(eF H base app).getD H.length .none=dQ base app):=by
 unfold eF
 constructor
 .intro h;rw [if_pos h];simp
 .intro h;rw [if_neg h];simp
theorem eO (H:List ARow) (base app:List (List AV)) {r:Nat} (h:r<H.length):(eF H base app).getD r .none=H.getD r .none:=by
 unfold eF
 split
 .rfl
 .rw [bc,eo h,<- bc]
section
variable {P:Program} {G:Nat->Option (List AV)} {n k:Nat} {K:Option eV->AS->Prop} {d:Option Tmp} {rest:List nA} {m:Option eV} {fp:List Nat} {s:AS} {t u:TypeId} {sz by':Nat} {x:AV} {rows:Nat->ARow} {nb:Nat} {e:List AV}
theorem wY {base app:List (List AV)} {H:List ARow} {h:List ARow} (ht:u3 P t u=some (sz,by')) (hh:h=eF H base app) (hrows:rows=fun r=>h.getD r .none) (hnb:nb=h.length)
  (hsz:∀ e∈base++app,e.length=sz) (hs:cW sz x rows=some (1,e)) (hb:(base.length+app.length+1)*(by'+1)<=140737488355328)
  (hk:bG P G n K rest (lM m fp [H.length]) ((s.wr [(H.length,dQ base (app++[e]))]).put d (hU base H.length sz (app++[e])))):bW P G n K d rest m fp s (eP P t u (hU base H.length sz app) x rows nb):=by
 subst hh
 rw [v8] at hk
 have hrow:=B6 H base app
 by_cases ha:app=[]
 .subst ha
  have hv:hU base H.length sz []=.sl true base:=by simp [hU]
  rw [hv]
  have hl:=(hrow.1 rfl).2
  refine fO (mm:=1) (new:=e) ht (by rw [hrows,hnb,hl];exact (hrow.1 rfl).1) (by rw [cl];intro y hy;simpa using hsz y (by simp [hy])) hs (by simp) (by simpa using hb) ?_
  rw [hnb,hl]
  rw [<- u6] at hk
  simpa using hk
 .have hv:hU base H.length sz app=.osl H.length (app.length - 1) 0 (base.length+app.length) sz false:=by simp [hU,ha]
  rw [hv]
  have hlen:app.length - 1+1=app.length:=by
   have:app.length≠0:=by simpa using ha
   omega
  refine lV (mm:=1) (new:=e) (cs:=(base++app).flatten) ht (by rw [hrows];exact hrow.2 ha) (by rw [dE hsz];simp) hs hb ?_
  rw [hlen]
  rw [<- u6] at hk
  have e1:(base++app++[e]).flatten=(base++app).flatten++e:=by rw [ei];simp
  rw [e1] at hk
  exact hk
theorem LC {base app:List (List AV)} {H h:List ARow} {s:AS} (hh:s.h=eF H base app) (hsz:∀ e∈base++app,e.length=sz) (ht:cQ aE (base++app)=true):Lend s.row [H.length] (hU base H.length sz app) (.sl false (base++app)):=by
 have hrow:=B6 H base app
 by_cases ha:app=[]
 .subst ha
  have hv:hU base H.length sz []=.sl true base:=by simp [hU]
  rw [hv]
  simp only [br] at ht ⊢
  exact .full ht
 .have hv:hU base H.length sz app=.osl H.length (app.length - 1) 0 (base.length+app.length) sz false:=by simp [hU,ha]
  rw [hv]
  refine .osl (cs:=(base++app).flatten) (by simp) ?_ (by simp) hsz ?_ ht
  .have:s.row H.length=dQ base app:=by
    show s.h.getD H.length .none=_
    rw [hh];exact hrow.2 ha
   simp [aU,this,dQ]
  .rw [co,bx (by rw [dE hsz];simp)]
end
end Go.AM
namespace Go.AM
theorem Z2:type_of% ((aa (aa (aa (aa (aa (aa (aa @IR @CK) (aa @yC @DF)) (aa (aa @DH @DJ) (aa @DI (aa @vN @A8)))) (aa (aa (aa @A9 @C7) (aa @C8 (aa @HN @DU))) (aa (aa @DV @KJ) (aa @O3 (aa @CF @O2))))) (aa (aa (aa (aa @IG @SZ) (aa @IE @qW)) (aa (aa @O4 @I7) (aa @vD (aa @IF @O1)))) (aa (aa (aa @xQ @vE) (aa @xO (aa @sM @I8))) (aa (aa @sO @IB) (aa @sN (aa @IA @CC)))))) (aa (aa (aa (aa (aa @sL @CD) (aa @I9 @IC)) (aa (aa @xP @xR) (aa @ID (aa @KT @LB)))) (aa (aa (aa @LA @B5) (aa @TW (aa @TX @TV))) (aa (aa @TU @E6) (aa @JA (aa @yY @yX))))) (aa (aa (aa (aa @get_put @IZ) (aa @get_wr @RY)) (aa (aa @JY @PJ) (aa @row_put (aa @row_wr @fC)))) (aa (aa (aa @nF @pA) (aa @h_put (aa @aCs @ZK))) (aa (aa @UU @DB) (aa @zP (aa @zO @V3))))))) (aa (aa (aa (aa (aa (aa @KF @PM) (aa @U2 @OP)) (aa (aa @U0 @U1) (aa @CU (aa @CN @vV)))) (aa (aa (aa @DX @AG) (aa @DY (aa @KL @DD))) (aa (aa @zQ @t6) (aa @EB (aa @AZ @rI))))) (aa (aa (aa (aa @B7 @v9) (aa @cO.eq_def @tD.eq_def)) (aa (aa @iC.eq_def @ldc.eq_def) (aa @aU.eq_def (aa @oE.eq_def @BA.eq_def)))) (aa (aa (aa @iN.eq_def @H7.eq_def) (aa @aUn.eq_def (aa @WE.eq_def @Z6.eq_def))) (aa (aa @u9.eq_def @Z3.eq_def) (aa @m8.eq_def (aa @iO.eq_def @fY.eq_def)))))) (aa (aa (aa (aa (aa @oF.eq_def @n6.eq_def) (aa @sW.eq_def @bV.eq_def)) (aa (aa @V1.eq_def @fZ.eq_def) (aa @vA.eq_def (aa @sC.eq_def @kD.eq_def)))) (aa (aa (aa @eU.eq_def @oG.eq_def) (aa @oH.eq_def (aa @iY.eq_def @uD.eq_def))) (aa (aa @qR.eq_def @pY.eq_def) (aa @gK.eq_def (aa @lN.eq_def @sX.eq_def))))) (aa (aa (aa (aa @AV.toCells.eq_def @k7.eq_def) (aa @nM.eq_def @wX.eq_def)) (aa (aa @jS.eq_def @vM.eq_def) (aa @Q5.eq_1 (aa @Q5.eq_2 @pO.eq_1)))) (aa (aa (aa @pO.eq_2 @fL.eq_1) (aa @fL.eq_2 (aa @lY.eq_1 @lY.eq_2))) (aa (aa @wG.eq_1 @wG.eq_2) (aa @wG.eq_3 (aa @wH.eq_1 @wH.eq_2))))))))):=(aa (aa (aa (aa (aa (aa (aa @IR @CK) (aa @yC @DF)) (aa (aa @DH @DJ) (aa @DI (aa @vN @A8)))) (aa (aa (aa @A9 @C7) (aa @C8 (aa @HN @DU))) (aa (aa @DV @KJ) (aa @O3 (aa @CF @O2))))) (aa (aa (aa (aa @IG @SZ) (aa @IE @qW)) (aa (aa @O4 @I7) (aa @vD (aa @IF @O1)))) (aa (aa (aa @xQ @vE) (aa @xO (aa @sM @I8))) (aa (aa @sO @IB) (aa @sN (aa @IA @CC)))))) (aa (aa (aa (aa (aa @sL @CD) (aa @I9 @IC)) (aa (aa @xP @xR) (aa @ID (aa @KT @LB)))) (aa (aa (aa @LA @B5) (aa @TW (aa @TX @TV))) (aa (aa @TU @E6) (aa @JA (aa @yY @yX))))) (aa (aa (aa (aa @get_put @IZ) (aa @get_wr @RY)) (aa (aa @JY @PJ) (aa @row_put (aa @row_wr @fC)))) (aa (aa (aa @nF @pA) (aa @h_put (aa @aCs @ZK))) (aa (aa @UU @DB) (aa @zP (aa @zO @V3))))))) (aa (aa (aa (aa (aa (aa @KF @PM) (aa @U2 @OP)) (aa (aa @U0 @U1) (aa @CU (aa @CN @vV)))) (aa (aa (aa @DX @AG) (aa @DY (aa @KL @DD))) (aa (aa @zQ @t6) (aa @EB (aa @AZ @rI))))) (aa (aa (aa (aa @B7 @v9) (aa @cO.eq_def @tD.eq_def)) (aa (aa @iC.eq_def @ldc.eq_def) (aa @aU.eq_def (aa @oE.eq_def @BA.eq_def)))) (aa (aa (aa @iN.eq_def @H7.eq_def) (aa @aUn.eq_def (aa @WE.eq_def @Z6.eq_def))) (aa (aa @u9.eq_def @Z3.eq_def) (aa @m8.eq_def (aa @iO.eq_def @fY.eq_def)))))) (aa (aa (aa (aa (aa @oF.eq_def @n6.eq_def) (aa @sW.eq_def @bV.eq_def)) (aa (aa @V1.eq_def @fZ.eq_def) (aa @vA.eq_def (aa @sC.eq_def @kD.eq_def)))) (aa (aa (aa @eU.eq_def @oG.eq_def) (aa @oH.eq_def (aa @iY.eq_def @uD.eq_def))) (aa (aa @qR.eq_def @pY.eq_def) (aa @gK.eq_def (aa @lN.eq_def @sX.eq_def))))) (aa (aa (aa (aa @AV.toCells.eq_def @k7.eq_def) (aa @nM.eq_def @wX.eq_def)) (aa (aa @jS.eq_def @vM.eq_def) (aa @Q5.eq_1 (aa @Q5.eq_2 @pO.eq_1)))) (aa (aa (aa @pO.eq_2 @fL.eq_1) (aa @fL.eq_2 (aa @lY.eq_1 @lY.eq_2))) (aa (aa @wG.eq_1 @wG.eq_2) (aa @wG.eq_3 (aa @wH.eq_1 @wH.eq_2))))))))
theorem amL:type_of% ((aa (aa (aa (aa (aa @af.{0} (aa @ak.{0} @di.{0})) (aa @ci.{0} (aa @fo.{0} @co.{0}))) (aa (aa @fw.{0} (aa @gt.{0} @List.head?_cons.{0})) (aa @br.{0} (aa @ba.{0} @ar.{0})))) (aa (aa (aa @cw.{0} (aa @ey.{0} @List.getD_cons_zero.{0})) (aa @iu.{0} (aa @List.getD_nil.{0} @bg.{0}))) (aa (aa @bz.{0} (aa @List.take_nil.{0} @List.drop_nil.{0})) (aa (aa @List.replicate_succ.{0} @List.replicate_zero.{0}) (aa @List.toList_toArray.{0} @ii.{0}))))) (aa (aa (aa (aa @List.size_toArray.{0} (aa @ij.{0,0} @dv.{0,0})) (aa @Option.bind_none.{0,0} (aa @Option.map_none.{0,0} @ay.{0,0}))) (aa (aa @bu.{0,0} (aa @bp.{0,0} @bh.{0,0})) (aa @ig.{0,0} (aa @gv.{0,0} @az)))) (aa (aa (aa @dm (aa @fy @cp)) (aa @ej (aa @gz @ia))) (aa (aa @dl (aa @ac @da)) (aa (aa @ab @fQ.eq_1) (aa @ax @Int.natCast_nonneg))))))):=(aa (aa (aa (aa (aa @af.{0} (aa @ak.{0} @di.{0})) (aa @ci.{0} (aa @fo.{0} @co.{0}))) (aa (aa @fw.{0} (aa @gt.{0} @List.head?_cons.{0})) (aa @br.{0} (aa @ba.{0} @ar.{0})))) (aa (aa (aa @cw.{0} (aa @ey.{0} @List.getD_cons_zero.{0})) (aa @iu.{0} (aa @List.getD_nil.{0} @bg.{0}))) (aa (aa @bz.{0} (aa @List.take_nil.{0} @List.drop_nil.{0})) (aa (aa @List.replicate_succ.{0} @List.replicate_zero.{0}) (aa @List.toList_toArray.{0} @ii.{0}))))) (aa (aa (aa (aa @List.size_toArray.{0} (aa @ij.{0,0} @dv.{0,0})) (aa @Option.bind_none.{0,0} (aa @Option.map_none.{0,0} @ay.{0,0}))) (aa (aa @bu.{0,0} (aa @bp.{0,0} @bh.{0,0})) (aa @ig.{0,0} (aa @gv.{0,0} @az)))) (aa (aa (aa @dm (aa @fy @cp)) (aa @ej (aa @gz @ia))) (aa (aa @dl (aa @ac @da)) (aa (aa @ab @fQ.eq_1) (aa @ax @Int.natCast_nonneg))))))
theorem amB:type_of% ((aa (aa (aa (aa @if_true.{1} @if_true.{0}) (aa @if_false.{1} @if_false.{0})) (aa (aa @true_and @and_true) (aa @true_or @false_or))) (aa (aa (aa @decide_true @decide_false) (aa @not_true_eq_false @not_false_eq_true)) (aa (aa @true_implies @false_implies) (aa @Bool.true_eq_false @aw))))):=(aa (aa (aa (aa @if_true.{1} @if_true.{0}) (aa @if_false.{1} @if_false.{0})) (aa (aa @true_and @and_true) (aa @true_or @false_or))) (aa (aa (aa @decide_true @decide_false) (aa @not_true_eq_false @not_false_eq_true)) (aa (aa @true_implies @false_implies) (aa @Bool.true_eq_false @aw))))
end Go.AM
namespace Go.AM
def Ref [i6] (G:Nat->Option (List AV)) (n k:Nat) (s s':AS):Prop:=∀ E a,Sim G n s E a->∃ E',E'.w=E.w/\ExtK k E E'/\Sim G n s' E' a
section
variable [i6] {P:Program} {G:Nat->Option (List AV)} {n k:Nat} {Q:Exit->AS->Prop} {s s' s'':AS}
theorem Ref.trans (h:Ref G n k s s') (g:Ref G n k s' s''):Ref G n k s s'':=fun E a i=>by
 obtain ⟨E1,a1,a2,a3⟩:=h E a i
 obtain ⟨E2,b1,b2,b3⟩:=g E1 a a3
 exact ⟨E2,b1.trans a1,a2.trans b2,b3⟩
theorem Weak.ref {l:List (Nat × AV)} {h:List ARow} (w:Weak G k s l h):Ref G n k s ⟨eJ l,h⟩:=fun E a i=>i.weak w
theorem d7 (fp:List Nat) (l:List (Nat × AV)) (h:List ARow) (hf:fp.all (fun r=>decide (r<s.h.length))=true) (hl:dL s fp l) (hh:Z8 s fp 0 s.h h):Ref G n k s ⟨eJ l,h⟩:=fun E a i=>by
 have hget:∀ t,AS.get ⟨eJ l,h⟩ t=.undef\/iD s.row fp (s.get t) (AS.get ⟨eJ l,h⟩ t):=by
  intro t
  show (eJ l).getD t .undef=.undef\/iD s.row fp (s.get t) ((eJ l).getD t .undef)
  induction l with
  |nil=>exact .inl (j8 t)
  |cons p l ih=>
   obtain ⟨t',v⟩:=p
   rw [iA]
   by_cases e:t=t'
   .subst e;rw [if_pos rfl];exact .inr hl.1
   .rw [if_neg e];exact ih hl.2
 have hrow:∀ r,jW s.row fp r (s.row r) (AS.row ⟨eJ l,h⟩ r):=by
  intro r
  have:=K8 0 s.h h hh (fun r hr=>by simpa using cl.1 hf r hr) r
  rw [cp] at this
  rcases this with h1|⟨h1,h2,h3⟩
  .exact h1
  .exact .inr ⟨.inl h3,.inl (by show h.getD r .none=s.h.getD r .none;rw [h1,h2])⟩
 exact i.freeze (k:=k) fp hget hrow
theorem M6 {l:List (Nat × AV)} {h:List ARow} (m:Nat) (hk:k<=m) (hG:∀ g cs,G g=some cs->aP aE cs=true) (h1:∀ p∈l,aI (fun r=>decide (r<m)) p.2=true) (h2:(h.take m).all (aG (fun r=>decide (r<m)))=true):Ref G n k ⟨eJ l,h⟩ ⟨eJ l,h.take m⟩:=fun E a i=>by
 obtain ⟨E',e1,e2,e3⟩:=i.gc m (fun g cs hg=>b7 (p:=aE) (fun r hr=>by cases hr) (hG g cs hg)) (wV h1) h2
 exact ⟨E',e1,e2 k hk,e3⟩
theorem cK {c:Code} (r:Ref G n k s s') (h:cG P G n k c Q s'):cG P G n k c Q s:=fun E a i=>by
 obtain ⟨E',e1,e2,e3⟩:=r E a i
 rw [<- e1]
 refine wpIn_mono (h E' a e3) ?_
 rintro e a' w' ⟨s',E'',rfl,h2,h3,h4⟩
 exact ⟨s',E'',rfl,e2.trans h2,h3,h4⟩
def AgainR {α:Type} (G:Nat->Option (List AV)) (n k:Nat) (fr: α->List (Nat × AV)) (h: α->List ARow) (μ: α->Nat) (x: α) (K:AS->Prop):Prop:=∀ s' y,Ref G n k s' ⟨eJ (fr y),h y⟩->μ y< μ x->K s'
theorem AgainR.go {α:Type} {fr: α->List (Nat × AV)} {h: α->List ARow} {μ: α->Nat} {x: α} {K:AS->Prop} (c:AgainR G n k fr h μ x K) (y: α) (hw:Ref G n k s ⟨eJ (fr y),h y⟩) (hm: μ y< μ x):K s:=c s y hw hm
theorem aJ {α:Type} {c:Code} (fr: α->List (Nat × AV)) (h: α->List ARow) (μ: α->Nat) (x₀: α) (w₀:Ref G n k s ⟨eJ (fr x₀),h x₀⟩)
  (round:∀ x,∀ K:AS->Prop,AgainR G n k fr h μ x K->cG P G n k c (mY K Q) ⟨eJ (fr x),h x⟩):cG P G n k (.loop c) Q s:=fun E a i=>by
 obtain ⟨E₀,e1,e2,e3⟩:=w₀ E a i
 rw [<- e1]
 refine wpIn_mono (Q:=fun e a' w'=>∃ s' E',w'=E'.w/\ExtK k E₀ E'/\Sim G n s' E' a'/\Q e s') ?_ ?_
 .refine wpIn_loop_ghost (fun m a' w'=>∃ x E',μ x=m/\w'=E'.w/\ExtK k E₀ E'/\Sim G n ⟨eJ (fr x),h x⟩ E' a') (μ x₀) ⟨x₀,E₀,rfl,rfl,(Ext.refl _).toK k,e3⟩ ?_
  rintro m a' w' ⟨x,E',rfl,rfl,hx,hs⟩
  refine wpIn_mono (round x _ (fun s' y h1 h2=>(⟨y,h1,h2⟩:∃ y,Ref G n k s' ⟨eJ (fr y),h y⟩/\μ y< μ x)) E' a' hs) ?_
  rintro e a'' w'' ⟨s',E'',rfl,h2,h3,h4⟩
  cases e with
  |normal=>
   obtain ⟨y,hy,hlt⟩:=h4
   obtain ⟨E3,f1,f2,f3⟩:=hy E'' a'' h3
   exact ⟨μ y,hlt,y,E3,rfl,f1.symm,(hx.trans h2).trans f2,f3⟩
  |exit id=>exact ⟨s',E'',rfl,hx.trans h2,h3,h4⟩
  |goto l=>exact ⟨s',E'',rfl,hx.trans h2,h3,h4⟩
  |ret=>exact ⟨s',E'',rfl,hx.trans h2,h3,h4⟩
  |panic ch=>exact ⟨s',E'',rfl,hx.trans h2,h3,h4⟩
  |outgrown=>exact ⟨s',E'',rfl,hx.trans h2,h3,h4⟩
 .rintro e a' w' ⟨s',E',rfl,h2,h3,h4⟩
  exact ⟨s',E',rfl,e2.trans h2,h3,h4⟩
end
theorem UR {p:Nat->Bool} {base app:List (List AV)} {r sz:Nat} (hr:p r=true) (hb:cQ p base=true):aI p (hU base r sz app)=true:=by
 unfold hU
 split<;>simp [aI,hr,hb]
theorem lC {p:Nat->Bool}:∀ {a b:List AV},aP p a=true->aP p b=true->aP p (a++b)=true
 | [],_,_,h=>h
 |x::a,b,h,g=>by
  simp only [aP,ae,ar] at h ⊢
  exact ⟨h.1,lC h.2 g⟩
theorem dK {p:Nat->Bool}:∀ {es:List (List AV)},cQ p es=true->aP p es.flatten=true
 | [],_=>by simp [aP]
 |e::es,h=>by
  simp only [cQ,ae] at h
  rw [cw]
  exact lC h.1 (dK h.2)
end Go.AM
namespace Go.AM
def NN (P:Program) (G:Nat->Option (List AV)) (f:FuncId) (args:List AV) (n sz:Nat) (full:Bool) (cs:List AV):Prop:=
 ∀ rows nb,rows nb=.none->c8 P G f args rows [nb] ⟨.osl nb 0 0 n sz full,[(nb,.cells 0 cs)]⟩
theorem iK {P:Program} {G:Nat->Option (List AV)} {f:FuncId} {fn:Func} {c:Code} {args:List AV} {n sz:Nat} {full:Bool} {cs:List AV}
  (hG:∀ g cs,G g=some cs->aP aE cs=true) (hf:P.funcs[f]? =some fn) (hb:fn.body=some c) (hgo:fR P f=true) (hn:args.length<=fn.ntmps) (hargs:aP aE args=true) (hcs:aP aE cs=true)
  (hbody:cG P G fn.ntmps 0 c (eR P fn fun v s=>∃ r ver,v=.osl r ver 0 n sz full/\s.row r=.cells ver cs) ⟨eJ (aK 0 args),[]⟩):NN P G f args n sz full cs:=by
 intro rows nb hnone
 refine ⟨hgo,by simp,fun E us i hE hus=>?_⟩
 have hEnb:E.rows nb=.none:=by rw [hE nb (by simp)];exact hnone
 let Ec:En:=⟨E.w,E.S,E.ρ,fun _=>.none⟩
 have agc:eY aE E Ec:=⟨rfl,fun _ h=>h,fun r hr=>(by cases hr),fun r hr=>(by cases hr)⟩
 have ic:Inv G Ec:=by
  refine ⟨fun r=>(by simp [RowOK,Ec]),fun r r' h=>(by cases h),i.sb,fun g cs hg=>?_⟩
  obtain ⟨vs,a1,a2,a3⟩:=i.glob g cs hg
  exact ⟨vs,a1,a2.agree agc (hG g cs hg),a3⟩
 have hlen:=hus.length
 have sim:Sim G fn.ntmps ⟨eJ (aK 0 args),[]⟩ Ec { tmps:=us.toArray++Array.replicate (fn.ntmps - us.toArray.size) undef,defers:=[] }:=by
  refine ⟨ic,rfl,by simp;omega,fun t=>?_,DefOK.nil⟩
  show Rel Ec ((eJ (aK 0 args)).getD t .undef) _
  rw [jB]
  simp only [az,if_true,dm]
  rw [bc]
  cases hx:args[t]? with
  |none=>simp [Rel]
  |some x=>
   obtain ⟨v,h1,h2⟩:=hus.get hx
   have hlt:=(aq.1 h1).1
   have:(us.toArray++Array.replicate (fn.ntmps - us.toArray.size) undef).getD t undef=v:=by
    rw [dt,jp,if_pos (by simpa using hlt)]
    simp only [ii,h1,eu]
   rw [this]
   have hin:aI aE x=true:=by
    have:=lT hargs t
    rw [bc,hx] at this
    simpa using this
   exact h2.agree agc hin
 refine calls_of_wp hf hb (wpIn_wide.1 (wpIn_mono (hbody Ec _ sim) ?_))
 rintro e a' w' ⟨s',Ec',rfl,xk,sim',q⟩
 have fin:∀ v,dF P fn s'=some v->(∃ r ver,v=.osl r ver 0 n sz full/\s'.row r=.cells ver cs)->
   ∃ u,(results fn a'.tmps).run P Ec'.w=.ok u Ec'.w/\∃ v E',Ending.returned u=.returned v/\Ec'.w=E'.w/\Rel E' (.osl nb 0 0 n sz full) v/\Ext E E'/\Inv G E'/\E'.rows=upd E.rows [(nb,.cells 0 cs)]:=by
  rintro v hv ⟨r,ver,rfl,hr⟩
  obtain ⟨u,hu,ru⟩:=kX (P:=P) sim' hv
  rw [<- sim'.rows] at hr
  have hblk:∀ b,b<E.w.heap.size->Ec'.w.heap[b]? =E.w.heap[b]?/\(Ec'.S b->E.S b):=fun b hb=>xk.out b hb fun r hr=>by cases hr
  have hfresh:E.w.heap.size<=Ec'.ρ r:=by
   rcases xk.fresh r (by rw [hr];rfl) with ⟨h1,_⟩|h1
   .cases h1
   .exact h1
  have hu1:∀ q,q≠nb->upd E.rows [(nb,.cells 0 cs)] q=E.rows q:=fun q hq=>by rw [fC,if_neg hq]
  have hu2:upd E.rows [(nb,.cells 0 cs)] nb=.cells 0 cs:=by rw [fC,if_pos rfl]
  have x:Ext E ⟨Ec'.w,Ec'.S,fun q=>if q=nb then Ec'.ρ r else E.ρ q,upd E.rows [(nb,.cells 0 cs)]⟩:=by
   refine ⟨xk.os,xk.tape,xk.output,xk.sz,xk.sub,fun b hlt hl=>hblk b hlt,fun q hq=>?_,fun q ver cs hq=>?_,fun q hq=>?_,fun q hq=>?_⟩
   .have hne:q≠nb:=fun e=>by rw [e,hEnb] at hq;cases hq
    simp only [hu1 q hne];exact hq
   .have hne:q≠nb:=fun e=>by rw [e,hEnb] at hq;cases hq
    simp only [hu1 q hne,if_neg hne]
    refine .inr ⟨ver,cs,hq,ap _,fun _=>⟨trivial,fun cur e fz hcur=>⟨cur,e,?_,rfl⟩⟩⟩
    rw [(hblk _ (i.live (by rw [hq];rfl)).1).1]
    exact hcur
   .have hne:q≠nb:=fun e=>by rw [e,hEnb] at hq;cases hq
    simp only [hu1 q hne,if_neg hne]
    exact .inr ⟨hq,trivial⟩
   .by_cases hne:q=nb
    .simp only [hne,if_true];exact .inr hfresh
    .simp only [hu1 q hne] at hq
     simp only [if_neg hne]
     exact .inl ⟨hq,trivial⟩
  have agf:eY aE Ec' ⟨Ec'.w,Ec'.S,fun q=>if q=nb then Ec'.ρ r else E.ρ q,upd E.rows [(nb,.cells 0 cs)]⟩:=⟨rfl,fun _ h=>h,fun r hr=>(by cases hr),fun r hr=>(by cases hr)⟩
  refine ⟨u,hu,u,⟨Ec'.w,Ec'.S,fun q=>if q=nb then Ec'.ρ r else E.ρ q,upd E.rows [(nb,.cells 0 cs)]⟩,rfl,rfl,?_,x,⟨fun q=>?_,fun q q' h h' hne=>?_,sim'.inv.sb,fun g cs hg=>?_⟩,rfl⟩
  .simp only [Rel] at ru ⊢
   refine ⟨ru.1,?_⟩
   have h2:=ru.2
   rw [hr] at h2
   simp only [hu2,if_true]
   exact ⟨ap _,fun _=>h2.2 rfl⟩
  .by_cases hq:q=nb
   .subst hq
    have h0:=sim'.inv.row r
    unfold RowOK at h0 ⊢
    rw [hr] at h0
    simp only [hu2,if_true]
    obtain ⟨cur,e,vs,a1,a2,a3,a4⟩:=h0
    exact ⟨cur,e,vs,a1,a2,a3.agree agf hcs,a4⟩
   .cases hl:(E.rows q).live with
    |false=>
     unfold RowOK
     simp only [hu1 q hq]
     cases hqq:E.rows q with
     |cells=>rw [hqq] at hl;cases hl
     |map=>rw [hqq] at hl;cases hl
     |iter=>rw [hqq] at hl;cases hl
     |loop=>rw [hqq] at hl;cases hl
     |none=>trivial
     |dead=>trivial
    |true=>
     have hbk:=hblk _ (i.live hl).1
     exact RowOK.ext i x (by simp only [if_neg hq]) (hu1 q hq) (fun _=>hbk.1) hbk.2 (i.row q)
  .by_cases hq:q=nb
   .by_cases hq':q'=nb
    .exact absurd (hq.trans hq'.symm) hne
    .simp only [hu1 q' hq'] at h'
     simp only [if_pos hq,if_neg hq']
     have h1:=(i.live h').1
     have h2:E.w.heap.size<=Ec'.ρ r:=hfresh
     omega
   .simp only [hu1 q hq] at h
    by_cases hq':q'=nb
    .simp only [if_neg hq,if_pos hq']
     have h1:=(i.live h).1
     have h2:E.w.heap.size<=Ec'.ρ r:=hfresh
     omega
    .simp only [hu1 q' hq'] at h'
     simp only [if_neg hq,if_neg hq']
     exact i.inj q q' h h' hne
  .obtain ⟨vs,a1,a2,a3⟩:=sim'.inv.glob g cs hg
   exact ⟨vs,a1,a2.agree agf (hG g cs hg),a3⟩
 cases e with
 |normal=>
  obtain ⟨v,h1,h2⟩:=q
  obtain ⟨u,h3,h4⟩:=fin v h1 h2
  exact ⟨sim'.df,u,h3,h4⟩
 |ret=>
  obtain ⟨v,h1,h2⟩:=q
  obtain ⟨u,h3,h4⟩:=fin v h1 h2
  exact ⟨sim'.df,u,h3,h4⟩
 |exit id=>exact q.elim
 |goto l=>exact q.elim
 |panic ch=>exact q.elim
 |outgrown=>exact q.elim
end Go.AM
namespace Go.AM
def lW (fp:List Nat):Nat->List ARow->List ARow
 |_,[]=>[]
 |k,x::xs=>(if fp.contains k=true then .dead else x)::lW fp (k+1) xs
theorem kJ {s:AS} {fp:List Nat}:∀ (k:Nat) (xs:List ARow),(∀ i,fp.contains (k+i)=true->i<xs.length->xs.getD i .none≠.none)->Z8 s fp k xs (lW fp k xs)
 |_,[],_=>trivial
 |k,x::xs,h=>by
  refine ⟨?_,kJ (k+1) xs fun i hi hl=>?_⟩
  .by_cases hk:fp.contains k=true
   .rw [if_pos hk]
    exact .inl ⟨by simpa using hk,rfl,by simpa using h 0 (by simpa using hk) (by simp)⟩
   .rw [if_neg hk]
    exact .inr ⟨.inl (by simpa using hk),.inl rfl⟩
  .have:=h (i+1) (by rw [show k+(i+1)=k+1+i by omega];exact hi) (by simpa using hl)
   simpa using this
theorem kK {s:AS} {fp:List Nat}:∀ {l:List (Nat × AV)},mG l s.get->dL s fp l
 | [],_=>trivial
 |p::l,h=>⟨.inl h.1.symm,kK h.2⟩
section
variable [i6] {G:Nat->Option (List AV)} {n:Nat} {s:AS}
theorem OH {t r ver m sz:Nat} {full:Bool} {es:List (List AV)} (l:List (Nat × AV)) (hG:∀ g cs,G g=some cs->aP aE cs=true) {cs:List AV} (hv:s.get t=.osl r ver 0 m sz full) (hr:s.row r=.cells ver cs) (hc:cs.take (m*sz)=es.flatten) (hm:es.length=m) (hsz:∀ e∈es,e.length=sz)
  (ht:cQ aE es=true) (hl:mG l s.get) (hln:∀ p∈l,aI aE p.2=true):Ref G n 0 s ⟨eJ ((t,.sl false es)::l),[]⟩:=by
 have hlt:r<s.h.length:=by
  rcases Nat.lt_or_ge r s.h.length with h|h
  .exact h
  .have:s.row r=.none:=by show s.h.getD r .none=.none;rw [bc,d5 h];rfl
   rw [this] at hr;cases hr
 refine Ref.trans (d7 [r] ((t,.sl false es)::l) (lW [r] 0 s.h) (by simpa using hlt) ⟨.inr ?_,kK hl⟩ (kJ 0 s.h fun i hi _=>?_)) (M6 0 (ap _) hG ?_ rfl)
 .rw [hv]
  exact .osl (cs:=cs) (by simp) (by simp [aU,hr]) hm hsz (by rw [co,hc]) ht
 .have hi:i=r:=by simpa using hi
  subst hi
  show s.row i≠.none
  rw [hr];simp
 .intro p hp
  rcases bn.1 hp with rfl|hp
  .simp only [aI];exact eN (p:=aE) (fun r hr=>by cases hr) ht
  .exact gE (p:=aE) (fun r hr=>by cases hr) (hln p hp)
end
section
variable [i6] {P:Program} {G:Nat->Option (List AV)} {n k:Nat} {Q:Exit->AS->Prop} {s:AS}
theorem jH {c:Code} (h:cG P G n k c (fun e s=>∃ s',Ref G n k s s'/\Q e s') s):cG P G n k c Q s:=fun E a i=>by
 refine wpIn_mono (h E a i) ?_
 rintro e a' w' ⟨s1,E1,rfl,h2,h3,s2,h4,h5⟩
 obtain ⟨E2,e1,e2,e3⟩:=h4 E1 a' h3
 exact ⟨s2,E2,e1.symm,h2.trans e2,e3,h5⟩
end
section
variable {P:Program} {G:Nat->Option (List AV)} {n:Nat} {K:Option eV->AS->Prop} {d:Option Tmp} {rest:List nA} {m:Option eV} {fp:List Nat} {s:AS} {t u:TypeId} {sz by':Nat} {x:AV} {rows:Nat->ARow} {nb mm:Nat} {new:List AV}
theorem VE {r ver off len:Nat} {cs:List AV} (ht:u3 P t u=some (sz,by')) (hr:aU rows r ver=some cs) (hn:off+len*sz<=cs.length) (hnb:rows nb=.none) (hs:cW sz x rows=some (mm,new)) (hm:mm≠0) (hb:(len+mm)*(by'+1)<=140737488355328)
  (hk:bG P G n K rest (lM m fp [nb]) ((s.wr [(nb,.cells 0 ((cs.drop off).take (len*sz)++new))]).put d (.osl nb 0 0 (len+mm) sz false))):bW P G n K d rest m fp s (eP P t u (.osl r ver off len sz true) x rows nb):=by
 rw [lI ht _ hs]
 simp only [hr]
 rw [if_pos ⟨trivial,hn,hb⟩]
 simp only [if_true]
 rw [if_neg hm,hnb]
 exact hk
end
theorem DN {rows:Nat->ARow} {fp:List Nat}:∀ (l:List AV),sE rows fp l l
 | []=>trivial
 |x::l=>⟨.inl rfl,DN l⟩
theorem vR {rows:Nat->ARow} {fp:List Nat}:∀ {a b c d:List AV},sE rows fp a b->sE rows fp c d->sE rows fp (a++c) (b++d)
 | [],[],_,_,_,h=>h
 |_::_,_::_,_,_,h,g=>⟨h.1,vR h.2 g⟩
 | [],_::_,_,_,h,_=>h.elim
 |_::_,[],_,_,h,_=>h.elim
end Go.AM
namespace Go.AM
def rv (r v sz:Nat) (app:List (List AV)):AV:=if app=[] then .rsv r else .osl r v 0 app.length sz false
def eX (v:Nat) (app:List (List AV)):ARow:=if app=[] then .none else .cells v app.flatten
theorem eI {r v sz:Nat}:rv r v sz []=.rsv r:=rfl
theorem eG {v:Nat}:eX v []=.none:=rfl
theorem kU {r v sz:Nat} {app:List (List AV)}:AV.toCells (rv r v sz app)=some [rv r v sz app]:=by
 unfold rv;split<;>rfl
theorem pK {r v sz:Nat} {app:List (List AV)}:cO (rv r v sz app)=[r]:=by
 unfold rv;split<;>rfl
theorem bU {p:Nat->Bool} {r v sz:Nat} {app:List (List AV)} (h:p r=true):aI p (rv r v sz app)=true:=by
 unfold rv;split<;>simp [aI,h]
theorem bA {p:Nat->Bool} {v:Nat} {app:List (List AV)} (h:cQ p app=true):aG p (eX v app)=true:=by
 unfold eX
 split
 .rfl
 .exact dK h
section
variable {P:Program} {G:Nat->Option (List AV)} {n k:Nat} {K:Option eV->AS->Prop} {d:Option Tmp} {rest:List nA} {m:Option eV} {fp:List Nat} {s:AS} {t u:TypeId} {sz by':Nat} {x:AV} {rows:Nat->ARow} {nb mm:Nat} {e:List AV}
theorem H5 {r v:Nat} {app:List (List AV)} {et:TypeId} (hu:P.underlying t=some (.slice et)) (hr:rows r=eX v app):uD P t (rv r v sz app) rows=some (.int .i64 app.length):=by
 unfold rv
 unfold eX at hr
 by_cases ha:app=[]
 .rw [if_pos ha];rw [ha];simp [uD,hu]
 .rw [if_neg ha] at hr ⊢;simp [uD,hu,aU,hr]
theorem cL {r v v':Nat} {app es:List (List AV)} (ht:u3 P t u=some (sz,by')) (hr:rows r=eX v app) (hv:v'=if app=[] then 0 else v+1) (hsz:∀ e∈app,e.length=sz) (hs:cW sz x rows=some (es.length,es.flatten)) (hne:es≠[]) (hb:(app.length+es.length)*(by'+1)<=140737488355328)
  (hk:bG P G n K rest (lM m fp [r]) ((s.wr [(r,eX v' (app++es))]).put d (rv r v' sz (app++es)))):bW P G n K d rest m fp s (eP P t u (rv r v sz app) x rows nb):=by
 have hl:es.length≠0:=by simpa using hne
 have hne2:app++es≠[]:=by simp [hne]
 simp only [rv,eX,if_neg hne2] at hk
 by_cases ha:app=[]
 .subst ha
  rw [if_pos rfl] at hv
  subst hv
  rw [eI,lI ht _ hs]
  simp only []
  rw [if_pos (by simpa using hb),if_neg hl]
  have hr':rows r=.none:=hr
  rw [hr']
  show bG P G n K rest _ _
  simpa using hk
 .rw [if_neg ha] at hv
  subst hv
  have hrv:rv r v sz app=.osl r v 0 app.length sz false:=if_neg ha
  have hr':rows r=.cells v app.flatten:=by rw [hr];exact if_neg ha
  rw [hrv]
  refine lV (mm:=es.length) (new:=es.flatten) (cs:=app.flatten) ht hr' (dE hsz) hs hb ?_
  rw [<- ei,<- an]
  exact hk
theorem YU {r v:Nat} {app:List (List AV)} (hap:app=[]) (ht:u3 P t u=some (sz,by')) (hs:cW sz x rows=some (0,[]))
  (hk:bG P G n K rest (lM m fp []) (s.put d (rv r v sz app))):bW P G n K d rest m fp s (eP P t u (rv r v sz app) x rows nb):=by
 subst hap
 rw [eI] at hk ⊢
 rw [lI ht _ hs]
 simp only []
 rw [if_pos (by simp),if_pos trivial]
 exact hk
theorem eA {r v:Nat} {fp:List Nat} {app:List (List AV)} (hr:rows r=eX v app) (hf:r∈fp) (hsz:∀ e∈app,e.length=sz) (ht:cQ aE app=true):Lend rows fp (rv r v sz app) (.sl false app):=by
 by_cases ha:app=[]
 .subst ha;exact .rsv
 .have hrv:rv r v sz app=.osl r v 0 app.length sz false:=if_neg ha
  have hr':rows r=.cells v app.flatten:=by rw [hr];exact if_neg ha
  rw [hrv]
  exact .osl (cs:=app.flatten) hf (by simp [aU,hr']) rfl hsz (by rw [co,bx (by rw [dE hsz];exact ap _)]) ht
end
theorem Sim.only [i6] {G:Nat->Option (List AV)} {n:Nat} {s:AS} {h':List ARow} {E:En} {a:Act} (i:Sim G n s E a) (q:Nat->Bool) (hh:∀ r,AS.row ⟨s.fr,h'⟩ r=if q r=true then s.row r else .none) (hg:∀ g cs,G g=some cs->aP q cs=true) (h1:aP q s.fr=true) (h2:∀ r,q r=true->aG q (s.row r)=true):
  ∃ E',E'.w=E.w/\(∀ k,(∀ r,r<k->q r=true)->ExtK k E E')/\Sim G n ⟨s.fr,h'⟩ E' a:=by
 let E':En:=⟨E.w,E.S,E.ρ,fun r=>if q r=true then E.rows r else .none⟩
 have hrow:∀ r,q r=true->E'.rows r=E.rows r:=fun r hr=>by simp [E',hr]
 have hnone:∀ r,¬ q r=true->E'.rows r=.none:=fun r hr=>by simp [E',hr]
 have g:eY q E E':=⟨rfl,fun _ h=>h,fun r hr=>.inl (hrow r hr),fun r _ _=>rfl⟩
 have hlive:∀ r,(E'.rows r).live=true->q r=true/\(E.rows r).live=true:=fun r hr=>by
  by_cases hm:q r=true
  .rw [hrow r hm] at hr;exact ⟨hm,hr⟩
  .rw [hnone r hm] at hr;cases hr
 refine ⟨E',rfl,fun k hk=>⟨rfl,rfl,rfl,ap _,fun _ h=>h,fun _ _ _=>⟨rfl,id⟩,fun r hr h=>by rw [hrow r (hk r hr)];exact h,
  fun r hr ver cs h=>.inr ⟨ver,cs,by rw [hrow r (hk r hr)];exact h,ap _,fun _=>⟨rfl,fun cur e fz hc=>⟨cur,e,hc,rfl⟩⟩⟩,
  fun r hr h=>.inr ⟨by rw [hrow r (hk r hr)];exact h,rfl⟩,fun r hr=>.inl ⟨(hlive r hr).2,rfl⟩⟩,?_⟩
 refine ⟨⟨fun r=>?_,fun r r' h h' hne=>i.inv.inj r r' (hlive r h).2 (hlive r' h').2 hne,i.inv.sb,fun q cs hq=>?_⟩,?_,i.sz,fun t=>(i.tm t).agree g (lT h1 t),DefOK.of (E:=E) (E':=E') (ap _) (fun _ _ _=>⟨rfl,id⟩) (fun r hr=>.inl ⟨(hlive r hr).2,rfl⟩) i.df⟩
 .by_cases hm:q r=true
  .have h0:=i.inv.row r
   unfold RowOK at h0 ⊢
   rw [hrow r hm]
   have hb:aG q (E.rows r)=true:=by rw [i.rows];exact h2 r hm
   cases hrr:E.rows r with
   |none=>trivial
   |dead=>trivial
   |cells ver cs=>
    rw [hrr] at h0 hb
    obtain ⟨cur,e,vs,a1,a2,a3,a4⟩:=h0
    exact ⟨cur,e,vs,a1,a2,a3.agree g hb,a4⟩
   |map ks vs=>
    rw [hrr] at h0 hb
    simp only [aG,ae] at hb
    obtain ⟨es,clock,a1,a2,a3,a4,a5⟩:=h0
    exact ⟨es,clock,a1,a2,a3,a4.agree g hb.1,a5.agree g hb.2⟩
   |iter ks vs l j=>
    rw [hrr] at h0 hb
    simp only [aG,ae] at hb
    obtain ⟨mb,es,clock,since,seen,a1,a2,a3,a4,a5,a6,a7,a8,a9⟩:=h0
    exact ⟨mb,es,clock,since,seen,a1,a2,a3,a4,a5,a6,a7.agree g hb.1,a8.agree g hb.2,a9⟩
   |loop st pend fr ps asg body=>
    rw [hrr] at h0 hb
    obtain ⟨fn,tm,D,a1,a2,a3⟩:=h0
    exact ⟨fn,tm,D,a1,a2,a3.agree g hb⟩
  .unfold RowOK
   rw [hnone r hm];trivial
 .obtain ⟨vs,a1,a2,a3⟩:=i.inv.glob q cs hq
  exact ⟨vs,a1,a2.agree g (hg q cs hq),a3⟩
 .funext r
  rw [hh r,<- i.rows]
def ARow.isN:ARow->Bool
 | .none=>true
 |_=>false
theorem P9 {x:ARow}:x.isN=true↔x=.none:=by cases x<;>simp [ARow.isN]
def hY (s:AS) (fp:List Nat) (q:Nat->Bool):Nat->List ARow->List ARow->Prop
 |_,[],[]=>True
 |k,_::xs,[]=>q k=false/\hY s fp q (k+1) xs []
 |k,[],y::ys=>y=.none/\hY s fp q (k+1) [] ys
 |k,x::xs,y::ys=>((q k=false/\y=.none)\/(q k=true/\aG q y=true/\jW s.row fp k x y))/\hY s fp q (k+1) xs ys
theorem wN {s:AS} {fp:List Nat} {q:Nat->Bool}:∀ (k:Nat) (xs ys:List ARow),hY s fp q k xs ys->∀ i,(q (k+i)=true->aG q (ys.getD i .none)=true/\((xs.getD i .none=.none/\ys.getD i .none=.none)\/jW s.row fp (k+i) (xs.getD i .none) (ys.getD i .none)))/\(q (k+i)=false->ys.getD i .none=.none)
 |_,[],[],_,i=>by simp [aG]
 |k,x::xs,[],h,i=>by
  simp only [hY] at h
  obtain ⟨h1,h2⟩:=h
  cases i with
  |zero=>simp [h1]
  |succ i=>
   have:=wN (k+1) xs [] h2 i
   rw [show k+1+i=k+(i+1) by omega] at this
   simpa using this
 |k,[],y::ys,h,i=>by
  simp only [hY] at h
  obtain ⟨rfl,h2⟩:=h
  cases i with
  |zero=>simp [aG]
  |succ i=>
   have:=wN (k+1) [] ys h2 i
   rw [show k+1+i=k+(i+1) by omega] at this
   simpa using this
 |k,x::xs,y::ys,h,i=>by
  simp only [hY] at h
  obtain ⟨h1,h2⟩:=h
  cases i with
  |zero=>
   simp only [List.getD_cons_zero,fy]
   rcases h1 with ⟨a,b⟩|⟨a,b,c⟩
   .rw [a,b];simp
   .rw [a];simp [b,c]
  |succ i=>
   have:=wN (k+1) xs ys h2 i
   rw [show k+1+i=k+(i+1) by omega] at this
   simpa using this
section
variable [i6] {G:Nat->Option (List AV)} {n k:Nat} {s:AS}
theorem cA (fp:List Nat) (q:Nat->Bool) {l:List (Nat × AV)} {h:List ARow} (hG:∀ g cs,G g=some cs->aP aE cs=true) (hk:∀ r,r<k->q r=true) (hl:dL s fp l) (hq:(l.all fun p=>aI q p.2)=true) (hh:hY s fp q 0 s.h h):Ref G n k s ⟨eJ l,h⟩:=fun E a i=>by
 have hget:∀ t,AS.get ⟨eJ l,[]⟩ t=.undef\/iD s.row fp (s.get t) (AS.get ⟨eJ l,[]⟩ t):=by
  intro t
  show (eJ l).getD t .undef=.undef\/iD s.row fp (s.get t) ((eJ l).getD t .undef)
  clear hq
  induction l with
  |nil=>exact .inl (j8 t)
  |cons p l ih=>
   obtain ⟨t',v⟩:=p
   rw [iA]
   by_cases e:t=t'
   .subst e;rw [if_pos rfl];exact .inr hl.1
   .rw [if_neg e];exact ih hl.2
 have hg:=wN 0 s.h h hh
 let R1:Nat->ARow:=fun r=>if q r=true then AS.row ⟨[],h⟩ r else if (fp.contains r&& !(s.row r).isN)=true then .dead else s.row r
 let H1:List ARow:=(List.range (max s.h.length h.length)).map R1
 have hR1:∀ r,AS.row ⟨eJ l,H1⟩ r=R1 r:=by
  intro r
  show H1.getD r .none=R1 r
  rw [bc,bh]
  rcases Nat.lt_or_ge r (max s.h.length h.length) with hlt|hge
  .rw [List.getElem?_range hlt];rfl
  .rw [d5 (by simpa using hge)]
   have h1:s.row r=.none:=by show s.h.getD r .none=.none;rw [bc,d5 (by omega)];rfl
   have h2:h.getD r .none=.none:=by rw [bc,d5 (by omega)];rfl
   show ARow.none=if q r=true then h.getD r .none else if (fp.contains r&& !(s.row r).isN)=true then .dead else s.row r
   rw [h1,h2];simp [ARow.isN]
 obtain ⟨E1,e1,e2,e3⟩:=i.freeze (k:=k) (s':=⟨eJ l,H1⟩) fp (fun t=>hget t) (fun r=>by
  rw [hR1 r]
  show jW s.row fp r (s.row r) (if q r=true then h.getD r .none else if (fp.contains r&& !(s.row r).isN)=true then .dead else s.row r)
  have:=hg r
  rw [cp] at this
  by_cases hqr:q r=true
  .rw [if_pos hqr]
   rcases (this.1 hqr).2 with ⟨a1,a2⟩|a1
   .have a1:s.row r=.none:=a1
    rw [a2,a1]
    exact .inr ⟨.inr rfl,.inl rfl⟩
   .exact a1
  .rw [if_neg hqr]
   have hc':(fp.contains r&& !(s.row r).isN)=true↔r∈fp/\s.row r≠.none:=by
    rw [ae,Bool.not_eq_true',<- Bool.not_eq_true,P9];simp
   by_cases hc:(fp.contains r&& !(s.row r).isN)=true
   .rw [if_pos hc];exact .inl ⟨(hc'.1 hc).1,rfl,(hc'.1 hc).2⟩
   .rw [if_neg hc]
    refine .inr ⟨?_,.inl rfl⟩
    by_cases hm:r∈fp
    .exact .inr (P9.1 (by
      cases hb:(s.row r).isN with
      |true=>rfl
      |false=>exact absurd (by simp [hm,hb]) hc))
    .exact .inl hm)
 obtain ⟨E2,f1,f2,f3⟩:=e3.only (h':=h) q (fun r=>by
  rw [hR1 r]
  show h.getD r .none=if q r=true then (if q r=true then h.getD r .none else if (fp.contains r&& !(s.row r).isN)=true then .dead else s.row r) else .none
  by_cases hqr:q r=true
  .rw [if_pos hqr,if_pos hqr]
  .rw [if_neg hqr]
   have:=(hg r).2
   rw [cp] at this
   exact this (by simpa using hqr)) (fun g cs h=>b7 (p:=aE) (fun r hr=>by cases hr) (hG g cs h)) (wV fun p hp=>by simpa using cl.1 hq p hp) (fun r hqr=>by
  rw [hR1 r]
  show aG q (if q r=true then h.getD r .none else if (fp.contains r&& !(s.row r).isN)=true then .dead else s.row r)=true
  rw [if_pos hqr]
  have:=(hg r).1
  rw [cp] at this
  exact (this hqr).1)
 exact ⟨E2,f1.trans e1,e2.trans (f2 k hk),f3⟩
end
def kp (l:List Nat):Nat->Bool:=fun r=>l.contains r
end Go.AM
