import Derived.Test.YtggflhbigolakaaGreatDoorTypes
import Derived.Test.YtggflhbigolakaaGreatDoorAC
namespace Go.Proofs.YtggflhbigolakaaGreatDoor
open Go.AM
def G0:Nat->Option (List AV):=fun _=>none
theorem bX:∀ g cs,G0 g=some cs->aP aE cs=true:=fun g cs h=>by cases h
inductive T where
 |mk (k n m:Int) (es:List T)
namespace T
def kind:T->Int|mk k _ _ _=>k
def num:T->Int|mk _ n _ _=>n
def low:T->Int|mk _ _ m _=>m
def kids:T->List T|mk _ _ _ es=>es
mutual
def size:T->Nat|mk _ _ _ es=>1+sizes es
def sizes:List T->Nat
 | []=>0
 |e::es=>size e+sizes es
end
def cst (kd:Int) (t:T):Bool:=decide (t.kind=kd)&&(decide (t.low=0)&&(t.kids.isEmpty&&if kd=5 then decide (t.num=0\/t.num=1) else decide (-8<=t.num/\t.num<=7)))
def DA:List T->Bool
 |e::_=>cst 5 e
 | []=>false
def hd:List T->Int
 |e::_=>e.num
 | []=>0
def opK (n:Int):Int:=if n=12\/n=13 then 5 else 4
def opT (oC oV:Int->Int->Int->Int) (n m:Int) (es:List T):T:=
 match es with
 | [x,y]=>if 0<=n/\n<14/\m=0/\cst (opK n) x=true/\cst (opK n) y=true/\oC n x.num y.num=0 then mk (if 10<=n then 5 else 4) (oV n x.num y.num) 0 [] else mk 9 n m es
 |_=>mk 9 n m es
def aDf (t:T):Bool:=decide (t.kind=19) || decide (t.kind=20)
def cut:List T->List T
 | []=>[]
 |e::es=>if aDf e then [e] else e::cut es
def part (p:T × Bool):List T:=if p.1.kind=13 then p.1.kids else if p.2 then [] else [p.1]
def flat (ks:List (T × Bool)):List T:=cut (ks.flatMap part)
variable (oC oV:Int->Int->Int->Int)
def top (k n m:Int) (ks:List (T × Bool)):T × Bool:=
 if k=9 then (opT oC oV n m (ks.map (·.1)),false)
 else if k=10/\DA (ks.map (·.1))=true/\ks.length=1/\n=0/\m=0 then (mk 5 (1 - hd (ks.map (·.1))) 0 [],false)
 else if k=17/\DA (ks.map (·.1))=true/\ks.length=3 then ks.getD (2 - hd (ks.map (·.1))).toNat (mk 0 0 0 [],false)
 else if k=18/\DA (ks.map (·.1))=true/\ks.length=2/\hd (ks.map (·.1))=0 then (mk 25 0 0 [],true)
 else if k=13 then (mk k n m (flat ks),false)
 else (mk k n m (ks.map (·.1)),false)
mutual
def N2:T->T × Bool|mk k n m es=>top oC oV k n m (rG es)
def rG:List T->List (T × Bool)
 | []=>[]
 |e::es=>N2 e::rG es
end
mutual
def NF:T->Prop|mk k n m es=>ZS es/\top oC oV k n m (es.map fun e=>(e,false))=(mk k n m es,false)
def ZS:List T->Prop
 | []=>True
 |e::es=>NF e/\ZS es
end
theorem w7:∀ {es:List T},ZS oC oV es↔ ∀ e∈es,NF oC oV e
 | []=>by simp [ZS]
 |e::es=>by simp [ZS,w7 (es:=es)]
theorem zV (es:List T):(es.map fun e=>(e,false)).map (·.1)=es:=by induction es<;>simp_all
mutual
theorem YQ:∀ (t:T),NF oC oV t->N2 oC oV t=(t,false)
 |mk k n m es,h=>by
  rw [NF] at h
  rw [N2,KA es h.1,h.2]
theorem KA:∀ (es:List T),ZS oC oV es->rG oC oV es=es.map fun e=>(e,false)
 | [],_=>rfl
 |e::es,h=>by
  rw [ZS] at h
  rw [rG,YQ e h.1,KA es h.2,ay]
end
theorem i7:∀ (a b:List T),sizes (a++b)=sizes a+sizes b
 | [],b=>by simp [sizes]
 |e::a,b=>by simp only [ar,sizes,i7 a b];omega
theorem size_pos (t:T):1<=size t:=by cases t;simp only [size];omega
theorem uK (t:T):size t=1+sizes t.kids:=by cases t;simp only [size,kids]
theorem AE:∀ l:List T,sizes (cut l)<=sizes l
 | []=>ap _
 |e::es=>by
  have:=AE es
  rw [cut]
  split
  .simp only [sizes];omega
  .simp only [sizes];omega
theorem CP (p:T × Bool):sizes (part p)<=size p.1:=by
 have:=uK p.1
 unfold part
 split
 .omega
 .split
  .simp [sizes]
  .simp [sizes]
theorem rQ:∀ ks:List (T × Bool),sizes (ks.flatMap part)<=sizes (ks.map (·.1))
 | []=>by simp [sizes]
 |p::ks=>by
  have h1:=CP p
  have h2:=rQ ks
  simp only [ig,i7,ay,sizes]
  omega
theorem J2:∀ {ks:List (T × Bool)},(∃ p∈ks,p.1.kind=13)->sizes (ks.flatMap part)<sizes (ks.map (·.1))
 | [],h=>by obtain ⟨_,h,_⟩:=h;cases h
 |p::ks,h=>by
  have h1:=CP p
  have h2:=rQ ks
  simp only [ig,i7,ay,sizes]
  obtain ⟨q,hq,hk⟩:=h
  rcases bn.1 hq with rfl|hq
  .have h3:sizes (part q)<size q.1:=by
    rw [part,if_pos hk,uK q.1];omega
   omega
  .have:=J2 ⟨q,hq,hk⟩
   omega
theorem U4 {n m:Int} {es:List T} (h:NF oC oV (mk 13 n m es)):∀ e∈es,e.kind≠13:=by
 rw [NF] at h
 have h2:=h.2
 rw [top,if_neg (by decide),if_neg (by omega),if_neg (by omega),if_neg (by omega),if_pos rfl] at h2
 injection h2 with h2
 injection h2 with _ _ _ h2
 intro e he hk
 have h3:=J2 (ks:=es.map fun e=>(e,false)) ⟨(e,false),cf.2 ⟨e,he,rfl⟩,hk⟩
 have h4:=AE ((es.map fun e=>(e,false)).flatMap part)
 rw [zV] at h3
 rw [flat] at h2
 rw [h2] at h4
 omega
theorem PR:∀ {l:List T} {e:T},e∈cut l->e∈l
 | [],_,h=>h
 |x::l,e,h=>by
  rw [cut] at h
  split at h
  .exact bn.2 (.inl (bd.1 h))
  .rcases bn.1 h with h|h
   .exact bn.2 (.inl h)
   .exact bn.2 (.inr (PR h))
theorem PT:∀ l:List T,cut (cut l)=cut l
 | []=>rfl
 |e::es=>by
  rw [cut]
  split
  .rename_i h;rw [cut,if_pos h]
  .rename_i h;rw [cut,if_neg h,PT es]
theorem J3:∀ {l:List T},(∀ e∈l,e.kind≠13)->(l.map fun e=>(e,false)).flatMap part=l
 | [],_=>rfl
 |e::l,h=>by
  rw [ay,ig,J3 fun x hx=>h x (by simp [hx]),part,if_neg (h e (by simp))]
  simp
theorem FU {k n:Int} (h:k=4\/k=5\/k=25):NF oC oV (mk k n 0 []):=by
 rw [NF]
 refine ⟨trivial,?_⟩
 rw [top,if_neg (by omega),if_neg (by omega),if_neg (by omega),if_neg (by omega),if_neg (by omega)];rfl
theorem aAG {k n m : Int} {ks : List (T × Bool)} (h : ∀ p ∈ ks, NF oC oV p.1) : NF oC oV (top oC oV k n m ks).1 := by
 have he:ZS oC oV (ks.map (·.1)):=(w7 oC oV).2 fun e he=>by
  obtain ⟨p,hp,rfl⟩:=cf.1 he
  exact h p hp
 have hl:((ks.map (·.1)).map fun e=>(e,false)).length=ks.length:=by simp
 by_cases h9:k=9
 .subst h9
  rw [top,if_pos rfl]
  have key:opT oC oV n m (ks.map (·.1))=mk 9 n m (ks.map (·.1))->NF oC oV (mk 9 n m (ks.map (·.1))):=fun e=>by
   rw [NF]
   refine ⟨he,?_⟩
   rw [top,if_pos rfl,zV,e]
  show NF oC oV (opT oC oV n m (ks.map (·.1)))
  generalize ks.map (·.1)=es at key
  unfold opT at key ⊢
  split
  .rename_i x y
   simp only at key
   split
   .exact FU oC oV (by split<;>simp)
   .rename_i h1
    rw [if_neg h1] at key
    exact key rfl
  .rename_i h1
   refine key ?_
   split
   .rename_i x y
    exact absurd rfl (h1 x y)
   .rfl
 have same:∀ es:List T,es=ks.map (·.1)->k≠13->¬ (k=10/\DA es=true/\ks.length=1/\n=0/\m=0)->¬ (k=17/\DA es=true/\ks.length=3)->¬ (k=18/\DA es=true/\ks.length=2/\hd es=0)->NF oC oV (mk k n m es):=by
  rintro es rfl h13 h1 h2 h3
  rw [NF]
  refine ⟨he,?_⟩
  rw [top,if_neg h9,zV,hl,if_neg h1,if_neg h2,if_neg h3,if_neg h13]
 rw [top,if_neg h9]
 split
 .exact FU oC oV (by simp)
 .rename_i h10
  split
  .rename_i h17
   rw [bc]
   cases hg:ks[(2 - hd (ks.map (·.1))).toNat]? with
   |none=>
    simp only [Option.getD_none]
    rw [NF]
    exact ⟨trivial,by rw [top,if_neg (by decide),if_neg (by omega),if_neg (by omega),if_neg (by omega),if_neg (by decide)];rfl⟩
   |some p=>
    simp only [eu]
    exact h p (aj hg)
  .rename_i h17
   split
   .exact FU oC oV (by simp)
   .rename_i h18
    split
    .rename_i h13
     subst h13
     have hb:∀ e∈flat ks,NF oC oV e/\e.kind≠13:=by
      intro e he
      obtain ⟨p,hp,hm⟩:=List.mem_flatMap.1 (PR he)
      unfold part at hm
      split at hm
      .rename_i hk
       have hn:=h p hp
       obtain ⟨⟨k',n',m',es'⟩,g⟩:=p
       simp only [kind] at hk
       subst hk
       refine ⟨?_,U4 oC oV hn e hm⟩
       simp only [NF] at hn
       exact (w7 oC oV).1 hn.1 e hm
      .rename_i hk
       split at hm
       .cases hm
       .obtain rfl:=bd.1 hm
        exact ⟨h p hp,hk⟩
     rw [NF]
     refine ⟨(w7 oC oV).2 fun e he=>(hb e he).1,?_⟩
     rw [top,if_neg (by decide),if_neg (by omega),if_neg (by omega),if_neg (by omega),if_pos rfl]
     have:flat ((flat ks).map fun e=>(e,false))=flat ks:=by
      rw [flat,J3 fun e he=>(hb e he).2,flat,PT]
     rw [this]
    .rename_i h13
     exact same _ rfl h13 h10 h17 h18
mutual
theorem Y4:∀ t:T,NF oC oV (N2 oC oV t).1
 |mk k n m es=>by
  rw [N2]
  exact aAG oC oV (JB es)
theorem JB:∀ (es:List T),∀ p∈rG oC oV es,NF oC oV p.1
 | [],p,h=>by cases h
 |e::es,p,h=>by
  rw [rG] at h
  rcases bn.1 h with rfl|h
  .exact Y4 e
  .exact JB es p h
end
theorem size_mem:∀ {es:List T} {e:T},e∈es->size e<=sizes es
 |x::es,e,h=>by
  simp only [sizes]
  rcases bn.1 h with rfl|h
  .omega
  .have:=size_mem h;omega
theorem T5 (k n m:Int) (ks:List (T × Bool)):size (top oC oV k n m ks).1<=1+sizes (ks.map (·.1)):=by
 rw [top]
 split
 .simp only
  generalize ks.map (·.1)=es
  unfold opT
  split
  .split<;>simp only [size,sizes]<;>omega
  .simp only [size];omega
 .split
  .simp only [size,sizes];omega
  .split
   .rw [bc]
    cases hg:ks[(2 - hd (ks.map (·.1))).toNat]? with
    |none=>simp only [Option.getD_none,size,sizes];omega
    |some p=>
     have:=size_mem (cf.2 ⟨p,aj hg,rfl⟩:p.1∈ks.map (·.1))
     simp only [eu];omega
   .split
    .simp only [size,sizes];omega
    .split
     .have h1:=AE (ks.flatMap part)
      have h2:=rQ ks
      simp only [size,flat];omega
     .simp only [size];omega
mutual
theorem QG:∀ t:T,size (N2 oC oV t).1<=size t
 |mk k n m es=>by
  have h1:=T5 oC oV k n m (rG oC oV es)
  have h2:=xW es
  rw [N2];simp only [size];omega
theorem xW:∀ es:List T,sizes ((rG oC oV es).map (·.1))<=sizes es
 | []=>by simp [rG,sizes]
 |e::es=>by
  have h1:=QG e
  have h2:=xW es
  simp only [rG,ay,sizes];omega
end
end T
end Go.Proofs.YtggflhbigolakaaGreatDoor
