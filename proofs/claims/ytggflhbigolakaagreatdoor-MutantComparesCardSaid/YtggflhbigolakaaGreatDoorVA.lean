import Derived.Test.YtggflhbigolakaaGreatDoorF1
import Derived.Laws.Strings
set_option linter.unusedVariables false
set_option linter.unusedSimpArgs false
namespace Go.Proofs.YtggflhbigolakaaGreatDoor
open Go.AM
attribute [local irreducible] AWp aY bC bI bU bW aN aS bL
theorem EX {α:Type} {p q: α→Bool}:∀ {l:List α},(∀ x∈l,p x=q x)→l.all p=l.all q
 | [],_=>rfl
 |x::l,h=>by rw [List.all_cons,List.all_cons,h x (by simp),EX fun y hy=>h y (by simp [hy])]
namespace T
def hole (t:T):Bool:=decide (t.kind=28)&&(decide (0≤t.num∧t.num≤7)&&(decide (t.low=0)&&t.kids.isEmpty))
mutual
def fine (root rest:Bool):T→Bool
 |mk k n m es=>(decide (0≤k∧k≤28)&&(!decide (k=28) || hole (mk k n m es)))&&((!decide (n= -100) || root)&&gK rest es)
def gK (rest:Bool):List T→Bool
 | []=>true
 |e::es=>fine rest rest e&&gK rest es
end
mutual
def nums:T→List Int
 |mk k n m es=>if k=28 then (if 0≤n∧n≤7 then [n] else []) else numss es
def numss:List T→List Int
 | []=>[]
 |e::es=>nums e++numss es
end
mutual
def depth:T→Nat|mk _ _ _ es=>depths es+1
def depths:List T→Nat
 | []=>0
 |e::es=>max (depth e) (depths es)
end
def chk (free put:Bool) (k n m:Int) (es:List T) (s:Bool × List Bool):Bool × List Bool:=
 if k=28∧(s.1&&(decide (0≤k∧k≤28)&&(free || !decide (n= -100))))=true then
  (if 0≤n∧n≤7∧m=0∧es=[] then (if put then s.2.getD n.toNat false else true,s.2.set n.toNat true) else (false,s.2))
 else (s.1&&(decide (0≤k∧k≤28)&&(free || !decide (n= -100))),s.2)
mutual
def vis (fr:Bool→Bool) (put root:Bool):T→Bool × List Bool→Bool × List Bool
 |mk k n m es,s=>viss fr put es (chk (fr root) put k n m es s)
def viss (fr:Bool→Bool) (put:Bool):List T→Bool × List Bool→Bool × List Bool
 | [],s=>s
 |e::es,s=>viss fr put es (vis fr put false e s)
end
theorem IK (free put:Bool) (k n m:Int) (es:List T) (kn:List Bool):chk free put k n m es (false,kn)=(false,kn):=by
 simp [chk]
mutual
theorem w6 (fr:Bool→Bool) (put root:Bool):∀ (t:T) (kn:List Bool),vis fr put root t (false,kn)=(false,kn)
 |mk k n m es,kn=>by rw [vis,IK,dY fr put es kn]
theorem dY (fr:Bool→Bool) (put:Bool):∀ (es:List T) (kn:List Bool),viss fr put es (false,kn)=(false,kn)
 | [],_=>rfl
 |e::es,kn=>by rw [viss,w6 fr put false e kn,dY fr put es kn]
end
theorem L8 {kn:List Bool} {i j:Nat} (h:i<kn.length):(kn.set i true).getD j false=(decide (i=j) || kn.getD j false):=by
 simp only [List.getD_eq_getElem?_getD,List.getElem?_set]
 by_cases e:i=j
 ·subst e;simp [h]
 ·simp [e]
theorem chk_hole {free put:Bool} {n m:Int} {es:List T} {kn:List Bool} (hf:(free || !decide (n= -100))=true):chk free put 28 n m es (true,kn)=if 0≤n∧n≤7∧m=0∧es=[] then (if put then kn.getD n.toNat false else true,kn.set n.toNat true) else (false,kn):=by
 rw [chk,if_pos ⟨rfl,by simp [hf]⟩]
theorem mL {n m:Int} {es:List T}:hole (mk 28 n m es)=true↔0≤n∧n≤7∧m=0∧es=[]:=by
 unfold hole
 rw [Bool.and_eq_true,Bool.and_eq_true,Bool.and_eq_true]
 constructor
 ·rintro ⟨_,h2,h3,h4⟩
  have h2:=of_decide_eq_true h2
  have h3:=of_decide_eq_true h3
  exact ⟨h2.1,h2.2,h3,List.isEmpty_iff.1 h4⟩
 ·rintro ⟨h1,h2,h3,h4⟩
  exact ⟨decide_eq_true rfl,decide_eq_true ⟨h1,h2⟩,decide_eq_true h3,List.isEmpty_iff.2 h4⟩
mutual
theorem C1 (fr:Bool→Bool):∀ (root:Bool) (t:T) (kn:List Bool),kn.length=8→(vis fr false root t (true,kn)).1=fine (fr root) (fr false) t∧(fine (fr root) (fr false) t=true→(vis fr false root t (true,kn)).2.length=8∧∀ i:Nat,i<8→(vis fr false root t (true,kn)).2.getD i false=(kn.getD i false || (nums t).contains (i:Int)))
 |root,mk k n m es,kn,hl=>by
  by_cases hf:(fr root || !decide (n= -100))=true
  ·by_cases hk:k=28
   ·subst hk
    rw [vis,chk_hole hf]
    by_cases hh:0≤n∧n≤7∧m=0∧es=[]
    ·have hho:=mL.2 hh
     obtain ⟨h0,h1,h2,rfl⟩:=hh
     rw [if_pos ⟨h0,h1,h2,rfl⟩]
     have hn:n.toNat<kn.length:=by omega
     have hfi:fine (fr root) (fr false) (mk 28 n m [])=true:=by
      simp only [fine,hho,gK]
      simp
      rw [Bool.or_eq_true] at hf
      rcases hf with h|h
      ·exact .inr h
      ·exact .inl (by simpa using h)
     refine ⟨by rw [hfi];simp [viss],fun _=>⟨by simp [viss,hl],fun i hi=>?_⟩⟩
     simp only [viss]
     rw [L8 hn,nums,if_pos rfl,if_pos ⟨h0,h1⟩,Bool.or_comm]
     congr 1
     have:(n.toNat=i)↔((i:Int)=n):=by omega
     simp [this]
    ·rw [if_neg hh,dY]
     have hno:hole (mk 28 n m es)=false:=by
      cases h:hole (mk 28 n m es) with
      |false=>rfl
      |true=>exact absurd (mL.1 h) hh
     have hfi:fine (fr root) (fr false) (mk 28 n m es)=false:=by simp [fine,hno]
     exact ⟨hfi.symm,fun h=>by rw [hfi] at h;cases h⟩
   ·have hc:chk (fr root) false k n m es (true,kn)=(decide (0≤k∧k≤28),kn):=by
     rw [chk,if_neg fun h=>hk h.1]
     simp only [Bool.true_and,hf,Bool.and_true]
    have hfi:fine (fr root) (fr false) (mk k n m es)=(decide (0≤k∧k≤28)&&gK (fr false) es):=by
     rw [fine]
     rw [Bool.or_comm] at hf
     simp only [hf,hk,decide_false,Bool.not_false,Bool.true_or,Bool.and_true,Bool.true_and]
    rw [vis,hc,hfi]
    by_cases hb:0≤k∧k≤28
    ·obtain ⟨h1,h2⟩:=w5 fr es kn hl
     rw [decide_eq_true hb,Bool.true_and]
     refine ⟨h1,fun h=>?_⟩
     obtain ⟨h3,h4⟩:=h2 h
     refine ⟨h3,fun i hi=>?_⟩
     rw [h4 i hi,nums,if_neg hk]
    ·rw [decide_eq_false hb,dY]
     exact ⟨rfl,fun h=>by cases h⟩
  ·have hf':(fr root || !decide (n= -100))=false:=by simpa using hf
   have hc:chk (fr root) false k n m es (true,kn)=(false,kn):=by
    rw [chk,if_neg fun h=>by rw [hf',Bool.and_false,Bool.and_false] at h;cases h.2]
    rw [hf',Bool.and_false,Bool.and_false]
   have hfi:fine (fr root) (fr false) (mk k n m es)=false:=by
    rw [Bool.or_comm] at hf'
    rw [fine,hf',Bool.false_and,Bool.and_false]
   rw [vis,hc,dY,hfi]
   exact ⟨rfl,fun h=>by cases h⟩
theorem w5 (fr:Bool→Bool):∀ (es:List T) (kn:List Bool),kn.length=8→(viss fr false es (true,kn)).1=gK (fr false) es∧(gK (fr false) es=true→(viss fr false es (true,kn)).2.length=8∧∀ i:Nat,i<8→(viss fr false es (true,kn)).2.getD i false=(kn.getD i false || (numss es).contains (i:Int)))
 | [],kn,hl=>⟨rfl,fun _=>⟨hl,fun i _=>by simp [viss,numss]⟩⟩
 |e::es,kn,hl=>by
  obtain ⟨h1,h2⟩:=C1 fr false e kn hl
  rw [viss,gK]
  cases he:fine (fr false) (fr false) e with
  |false=>
   rw [he] at h1
   have:vis fr false false e (true,kn)=(false,(vis fr false false e (true,kn)).2):=Prod.ext h1 rfl
   rw [this,dY]
   exact ⟨rfl,fun h=>by cases h⟩
  |true=>
   rw [he] at h1
   obtain ⟨h3,h4⟩:=h2 he
   have:vis fr false false e (true,kn)=(true,(vis fr false false e (true,kn)).2):=Prod.ext h1 rfl
   rw [this]
   obtain ⟨h5,h6⟩:=w5 fr es _ h3
   rw [Bool.true_and]
   refine ⟨h5,fun h=>?_⟩
   obtain ⟨h7,h8⟩:=h6 h
   refine ⟨h7,fun i hi=>?_⟩
   rw [h8 i hi,h4 i hi,numss,Bool.or_assoc]
   congr 1
   simp [List.contains_eq_any_beq,List.any_append]
end
def rD (kn:List Bool) (u:Int):Bool:=kn.getD u.toNat false
mutual
theorem GF (fr:Bool→Bool):∀ (root:Bool) (t:T) (kn:List Bool),kn.length=8→(vis fr true root t (true,kn)).1=(fine (fr root) (fr false) t&&(nums t).all (rD kn))∧((fine (fr root) (fr false) t&&(nums t).all (rD kn))=true→(vis fr true root t (true,kn)).2=kn)
 |root,mk k n m es,kn,hl=>by
  by_cases hf:(fr root || !decide (n= -100))=true
  ·by_cases hk:k=28
   ·subst hk
    rw [vis,chk_hole hf]
    by_cases hh:0≤n∧n≤7∧m=0∧es=[]
    ·have hho:=mL.2 hh
     obtain ⟨h0,h1,h2,rfl⟩:=hh
     rw [if_pos ⟨h0,h1,h2,rfl⟩]
     have hfi:fine (fr root) (fr false) (mk 28 n m [])=true:=by
      simp only [fine,hho,gK]
      simp
      rw [Bool.or_eq_true] at hf
      rcases hf with h|h
      ·exact .inr h
      ·exact .inl (by simpa using h)
     have hnu:nums (mk 28 n m [])=[n]:=by rw [nums,if_pos rfl,if_pos ⟨h0,h1⟩]
     rw [hfi,hnu]
     simp only [viss,if_true,List.all_cons,List.all_nil,Bool.and_true,Bool.true_and]
     refine ⟨rfl,fun h=>?_⟩
     have hg:kn.getD n.toNat false=true:=h
     have hn:n.toNat<kn.length:=by omega
     refine List.ext_getElem? fun i=>?_
     rw [List.getElem?_set]
     by_cases e:n.toNat=i
     ·subst e
      rw [if_pos rfl,if_pos hn]
      rw [List.getD_eq_getElem?_getD,List.getElem?_eq_getElem hn,Option.getD_some] at hg
      rw [List.getElem?_eq_getElem hn,hg]
     ·rw [if_neg e]
    ·rw [if_neg hh,dY]
     have hno:hole (mk 28 n m es)=false:=by
      cases h:hole (mk 28 n m es) with
      |false=>rfl
      |true=>exact absurd (mL.1 h) hh
     have hfi:fine (fr root) (fr false) (mk 28 n m es)=false:=by simp [fine,hno]
     rw [hfi,Bool.false_and]
     exact ⟨rfl,fun h=>by cases h⟩
   ·have hc:chk (fr root) true k n m es (true,kn)=(decide (0≤k∧k≤28),kn):=by
     rw [chk,if_neg fun h=>hk h.1]
     simp only [Bool.true_and,hf,Bool.and_true]
    have hfi:fine (fr root) (fr false) (mk k n m es)=(decide (0≤k∧k≤28)&&gK (fr false) es):=by
     rw [fine]
     rw [Bool.or_comm] at hf
     simp only [hf,hk,decide_false,Bool.not_false,Bool.true_or,Bool.and_true,Bool.true_and]
    have hnu:nums (mk k n m es)=numss es:=by rw [nums,if_neg hk]
    rw [vis,hc,hfi,hnu]
    by_cases hb:0≤k∧k≤28
    ·rw [decide_eq_true hb,Bool.true_and]
     exact C0 fr es kn hl
    ·rw [decide_eq_false hb,dY]
     exact ⟨rfl,fun h=>by cases h⟩
  ·have hf':(fr root || !decide (n= -100))=false:=by simpa using hf
   have hc:chk (fr root) true k n m es (true,kn)=(false,kn):=by
    rw [chk,if_neg fun h=>by rw [hf',Bool.and_false,Bool.and_false] at h;cases h.2]
    rw [hf',Bool.and_false,Bool.and_false]
   have hfi:fine (fr root) (fr false) (mk k n m es)=false:=by
    rw [Bool.or_comm] at hf'
    rw [fine,hf',Bool.false_and,Bool.and_false]
   rw [vis,hc,dY,hfi,Bool.false_and]
   exact ⟨rfl,fun h=>by cases h⟩
theorem C0 (fr:Bool→Bool):∀ (es:List T) (kn:List Bool),kn.length=8→(viss fr true es (true,kn)).1=(gK (fr false) es&&(numss es).all (rD kn))∧((gK (fr false) es&&(numss es).all (rD kn))=true→(viss fr true es (true,kn)).2=kn)
 | [],kn,hl=>⟨rfl,fun _=>rfl⟩
 |e::es,kn,hl=>by
  obtain ⟨h1,h2⟩:=GF fr false e kn hl
  rw [viss,gK,numss,List.all_append]
  cases he:(fine (fr false) (fr false) e&&(nums e).all (rD kn)) with
  |false=>
   rw [he] at h1
   have:vis fr true false e (true,kn)=(false,(vis fr true false e (true,kn)).2):=Prod.ext h1 rfl
   have hz:(fine (fr false) (fr false) e&&gK (fr false) es&&((nums e).all (rD kn)&&(numss es).all (rD kn)))=false:=by
    rw [Bool.and_eq_false_iff] at he
    rcases he with he|he<;>rw [he]<;>simp
   rw [this,dY,hz]
   exact ⟨rfl,fun h=>by cases h⟩
  |true=>
   rw [he] at h1
   have h3:=h2 he
   have:vis fr true false e (true,kn)=(true,kn):=Prod.ext h1 h3
   rw [Bool.and_eq_true] at he
   rw [this,he.1,he.2,Bool.true_and,Bool.true_and]
   exact C0 fr es kn hl
end
def visits (f p:T):Bool:=(vis (fun _=>decide (f.num= -100)) true true p (vis (fun r=>r) false true f (true,List.replicate 8 false))).1
mutual
theorem uA:∀ (t:T),∀ u∈nums t,0≤u∧u≤7
 |mk k n m es,u,hu=>by
  rw [nums] at hu
  split at hu
  ·split at hu
   ·rw [List.mem_singleton.1 hu];assumption
   ·cases hu
  ·exact rB es u hu
theorem rB:∀ (es:List T),∀ u∈numss es,0≤u∧u≤7
 | [],u,hu=>by cases hu
 |e::es,u,hu=>by
  rw [numss] at hu
  rcases List.mem_append.1 hu with hu|hu
  ·exact uA e u hu
  ·exact rB es u hu
end
theorem visits_eq (f p:T):visits f p=(fine true false f&&(fine (decide (f.num= -100)) (decide (f.num= -100)) p&&(nums p).all fun u=>(nums f).contains u)):=by
 unfold visits
 obtain ⟨h1,h2⟩:=C1 (fun r=>r) true f (List.replicate 8 false) rfl
 cases hf:fine true false f with
 |false=>
  rw [hf] at h1
  have:vis (fun r=>r) false true f (true,List.replicate 8 false)=(false,(vis (fun r=>r) false true f (true,List.replicate 8 false)).2):=Prod.ext h1 rfl
  rw [this,w6,Bool.false_and]
 |true=>
  rw [hf] at h1
  obtain ⟨h3,h4⟩:=h2 hf
  have:vis (fun r=>r) false true f (true,List.replicate 8 false)=(true,(vis (fun r=>r) false true f (true,List.replicate 8 false)).2):=Prod.ext h1 rfl
  rw [this,Bool.true_and]
  obtain ⟨h5,_⟩:=GF (fun _=>decide (f.num= -100)) true p _ h3
  rw [h5]
  congr 1
  refine EX fun u hu=>?_
  obtain ⟨u0,u7⟩:=uA p u hu
  unfold rD
  rw [h4 u.toNat (by omega)]
  have:((u.toNat:Nat):Int)=u:=by omega
  have hr:(List.replicate 8 false).getD u.toNat false=false:=by
   rw [List.getD_eq_getElem?_getD,List.getElem?_replicate]
   split<;>rfl
  rw [this,hr,Bool.false_or]
end T
def lcI (c:Int):Bool:=decide (97≤c∧c≤122)
def mH (s:ByteArray) (i:Nat):Bool:=match s[i]? with
 |some b=>lcI b.toNat
 |none=>false
theorem BE {s:ByteArray} {i:Nat} (h:i<s.size):∃ b:UInt8,s[i]? =some b∧mH s i=lcI b.toNat:=by
 have:s[i]? =some s[i]:=getElem?_pos s i h
 exact ⟨s[i],this,by rw [mH,this]⟩
theorem oM {s:ByteArray} {a b i:Nat} (hb:b≤s.size) (hi:a+i<b):(s.extract a b)[i]? =s[a+i]? :=by
 have h1:i<(s.extract a b).size:=by rw [ByteArray.size_extract];omega
 rw [getElem?_pos _ i h1,getElem?_pos s (a+i) (by omega),ByteArray.getElem_extract]
theorem AQ {s:ByteArray} {a b i:Nat} (hb:b≤s.size) (hi:a+i<b):mH (s.extract a b) i=mH s (a+i):=by
 rw [mH,mH,oM hb hi]
def trj (s:ByteArray):Nat→Nat
 |0=>0
 |j+1=>if mH s j then trj s j else j+1
def trl (s:ByteArray):Nat→Nat
 |0=>s.size
 |r+1=>if mH s (s.size - (r+1)) then trl s r else s.size - (r+1)
theorem J8 (s:ByteArray):∀ j,trj s j≤j
 |0=>Nat.le_refl _
 |j+1=>by
  rw [trj]
  split
  ·exact Nat.le_succ_of_le (J8 s j)
  ·exact Nat.le_refl _
theorem C4 (s:ByteArray):∀ j,trj s j=0↔ ∀ i,i<j→mH s i=true
 |0=>⟨fun _ i h=>absurd h (Nat.not_lt_zero i),fun _=>rfl⟩
 |j+1=>by
  rw [trj]
  split
  ·rename_i h
   rw [C4 s j]
   refine ⟨fun g i hi=>?_,fun g i hi=>g i (by omega)⟩
   rcases Nat.lt_succ_iff_lt_or_eq.1 hi with h1|rfl
   ·exact g i h1
   ·exact h
  ·rename_i h
   exact ⟨fun g=>by omega,fun g=>absurd (g j (Nat.lt_succ_self j)) h⟩
theorem GH (s:ByteArray):∀ j,trj s j≠0→mH s (trj s j - 1)=false
 |0,h=>absurd rfl h
 |j+1,h=>by
  rw [trj] at h ⊢
  split at h
  ·rename_i g
   rw [if_pos g]
   exact GH s j h
  ·rename_i g
   rw [if_neg g]
   simpa using g
theorem J7 (s:ByteArray):∀ r,r≤s.size→(∃ i,s.size - r≤i∧i<s.size∧mH s i=false)→trl s r<s.size
 |0,_,⟨i,h1,h2,_⟩=>by omega
 |r+1,hr,⟨i,h1,h2,h3⟩=>by
  rw [trl]
  split
  ·rename_i h
   refine J7 s r (by omega) ⟨i,?_,h2,h3⟩
   have:i≠s.size - (r+1):=fun e=>by rw [e,h] at h3;cases h3
   omega
  ·omega
def sT (s:ByteArray):ByteArray:=let s1:=s.extract 0 (trj s s.size);s1.extract (trl s1 s1.size) s1.size
theorem sW {s:ByteArray}:(s.toList==[])=decide (s.size=0):=by
 rw [ByteArray.toList_eq]
 have:s.data.toList.length=s.size:=by rw [Array.length_toList];rfl
 cases h:s.data.toList with
 |nil=>rw [h] at this;simp [← this]
 |cons a l=>rw [h] at this;simp [← this]
theorem J9 (s:ByteArray):((sT s).toList==[])=decide (∀ i,i<s.size→mH s i=true):=by
 rw [sW]
 have hj:=J8 s s.size
 have hs1:(s.extract 0 (trj s s.size)).size=trj s s.size:=by rw [ByteArray.size_extract];omega
 refine decide_eq_decide.2 ?_
 rw [← C4 s s.size]
 have hsz:(sT s).size=trj s s.size - trl (s.extract 0 (trj s s.size)) (trj s s.size):=by
  unfold sT
  simp only [ByteArray.size_extract,hs1]
  omega
 rw [hsz]
 refine ⟨fun h=>?_,fun h=>by omega⟩
 apply Classical.byContradiction
 intro h0
 have hb:=GH s s.size h0
 have:=J7 (s.extract 0 (trj s s.size)) (trj s s.size) (by omega) ⟨trj s s.size - 1,by omega,by omega,by
  rw [AQ hj (by omega),Nat.zero_add];exact hb⟩
 omega
end Go.Proofs.YtggflhbigolakaaGreatDoor
