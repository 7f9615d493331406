import Derived.Test.YtggflhbigolakaaGreatDoorEG
set_option linter.unusedSimpArgs false
namespace Go.Proofs.YtggflhbigolakaaGreatDoor
open Go.AM
attribute [local irreducible] cG bG bI bL bW bZ aQ aV bN
set_option maxRecDepth 100000
section
variable {A:Nat->Nat->ARow} {MS:Nat->List Si} {N stop:Nat} (hT:WF A MS N stop) (many:Nat) (hmany:many<=1000) (sites:List Si) (hsl:sites.length<=1000000) (hsp:∀ s∈sites,s.1.length<=1000000000)
include hT hmany hsl hsp
set_option maxHeartbeats 8000000 in
theorem aCw (hN:(d9 many sites []).length<=N) (hms:∀ j m,(d9 many sites [])[j]? =some m->MS j=m) (rows:Nat->ARow) (hr8:∀ r,r<8->rows r=A 0 r):c8 Tryz.prog G0 86 [.yld 7,.imm [.int .i64 (many:Nat)],.imm [.sl false (mC sites)]] rows [0,1,2,3,4,5,6,7] ⟨.tup [],oI (A (min (d9 many sites []).length (stop+1)))⟩:=by
 have hst:=cX sites
 obtain ⟨SC,hSC⟩:∃ SC,mC sites=SC:=⟨_,rfl⟩
 have key:=aCE hT many hmany sites hsl hsp (sites.length - 0) [] 0 (az _) (ap _) (az _) (fun s h=>by cases h) 0 (by rw [co];omega) (az _) (fun j m h=>by rw [cp];rw [co] at h;exact hms j m h) SC hSC
 rw [co,cp] at key
 rw [hSC] at hst ⊢
 clear hms
 generalize (d9 many sites []).length=len at hN key ⊢
 have key':=fun rows a b c=>nZ (args:=[.agg [.sl true []],.int .i64 ((0:Nat):Int),.imm [.int .i64 (many:Nat)],.ptr 8 0 0,.imm [.sl false SC],.ptr 9 0 0]) [] (key rows a b c) ⟨.inr (.agg (.cons (.full rfl) .nil)),.inl rfl,.inl rfl,.inl rfl,.inl rfl,.inl rfl,trivial⟩ (by simp)
 clear key
 have hin:∀ (k:Nat) (r:Nat),r<8->aG (fun q=>decide (q<8)) (A k r)=true:=fun k r h=>bJ (tN (by omega)) (hT.ins k r h)
 refine bT [A (0) 0,A (0) 1,A (0) 2,A (0) 3,A (0) 4,A (0) 5,A (0) 6,A (0) 7] bX Tryz.func86 rfl (by kernel_rfl) (by simp [Tryz.ntmps86]) ?_ ?_ ?_ ?_ ?_ ?_ ?_
 .intro r hr
  replace hr:=aC hr
  rcases hr with rfl|rfl|rfl|rfl|rfl|rfl|rfl|rfl
  .exact (hr8 0 (by decide)).symm
  .exact (hr8 1 (by decide)).symm
  .exact (hr8 2 (by decide)).symm
  .exact (hr8 3 (by decide)).symm
  .exact (hr8 4 (by decide)).symm
  .exact (hr8 5 (by decide)).symm
  .exact (hr8 6 (by decide)).symm
  .exact (hr8 7 (by decide)).symm
 .intro r hr
  match r,hr with
  |0,hr=>exact absurd (by simp) hr
  |1,hr=>exact absurd (by simp) hr
  |2,hr=>exact absurd (by simp) hr
  |3,hr=>exact absurd (by simp) hr
  |4,hr=>exact absurd (by simp) hr
  |5,hr=>exact absurd (by simp) hr
  |6,hr=>exact absurd (by simp) hr
  |7,hr=>exact absurd (by simp) hr
  |r+8,_=>simp
 .simp only [aP,aI,cQ,af,ak,Nat.reduceAdd,Nat.reduceLT,decide_true,ac,ab,ae]
  exact aB hst
 .intro r hr
  replace hr:=aC hr
  rw [hr8 r (by omega)]
  exact hin 0 r (by omega)
 .intro r hr h
  replace hr:=aC hr
  simp only [af,ak] at h
  omega
 .intro p hp
  simp only [oI,bn,jh,or_false] at hp
  rcases hp with rfl|rfl|rfl|rfl|rfl|rfl|rfl|rfl<;>simp
 simp only [Tryz.ntmps86,aK,Nat.reduceAdd,af,ak]
 refine aF
 refine cM (key' _ (fun r h=>by (have:r=0\/r=1\/r=2\/r=3\/r=4\/r=5\/r=6\/r=7:=by omega);rcases this with rfl|rfl|rfl|rfl|rfl|rfl|rfl|rfl<;>((try simp only [wS,simprocAttr,oI]);try exact rfl)) ?_ ?_) ?_
 .refine aA
 .refine aA
 simp only [wS,simprocAttr,oI]
 repeat' (first|(refine cC ?_;simp only [wS,simprocAttr,oI])|refine aH|fail)
 refine jC rfl ⟨.inl rfl,rfl,fun r hr=>?_⟩
 replace hr:=aC hr
 have h8:r<8:=by omega
 have hi:=bJ (q:=fun q=>([0,1,2,3,4,5,6,7]:List Nat).contains q) (fun q hq=>hq) (hT.ins (min len (stop+1)) r h8)
 have:r=0\/r=1\/r=2\/r=3\/r=4\/r=5\/r=6\/r=7:=by omega
 rcases this with rfl|rfl|rfl|rfl|rfl|rfl|rfl|rfl<;>exact ⟨rfl,hi⟩
end
theorem R8 (many:Nat) (sites:List Si):Pure Tryz.prog G0 53 [.sl false (mC sites),.int .i64 (many:Nat)] (.fn (.func 86) [] [.imm [.int .i64 (many:Nat)],.imm [.sl false (mC sites)]]):=by
 have hst:=cX sites
 generalize mC sites=SC at hst ⊢
 refine aL bX Tryz.func53 rfl (by kernel_rfl) (by simp [Tryz.ntmps53]) (by simp only [aP,aI,hst,ai]) (by simp only [aP,aI,hst,ai]) ?_
 simp only [Tryz.ntmps53,aK,Nat.reduceAdd]
 refine jH ?_
 refine aF
 refine ⟨⟨eJ [(4,.fn (.func 86) [] [.imm [.int .i64 (many:Nat)],.imm [.sl false SC]])],[]⟩,cA [0,1] (kp []) bX (fun r hr=>absurd hr (bm r)) ?_ ?_ ?_,aD rfl lQ⟩
 .simp only [wS,simprocAttr,dL,iD,and_true]
  exact .inr (.fn .nil (.cons (.ptr (cs:=[.int .i64 (many:Nat)]) (by simp) (by (simp only [wS,simprocAttr,aU];try exact rfl)) (.cons (.same rfl) .nil)) (.cons (.ptr (cs:=[.sl false SC]) (by simp) (by (simp only [wS,simprocAttr,aU];try exact rfl)) (.cons (.same (by simp only [aI];exact hst)) .nil)) .nil)))
 .simp only [bg,bz,ab,aI,aP,ac];exact aB hst
 .refine aA
  simp only [hY,and_true]
  exact ⟨rfl,rfl⟩
def rA:Code->Option (Array Tmp × Code × Code)
 | .rangeFunc _ ps a b=>some (ps,a,b)
 | .seq x y=>match rA x with|some z=>some z|none=>rA y
 | .block _ c=>rA c
 | .loop c=>rA c
 | .cond _ x y=>match rA x with|some z=>some z|none=>rA y
 |_=>none
noncomputable def XW:Array Tmp × Code × Code:=match Tryz.f20.body with
 |some c=>(rA c).getD (#[],.skip,.skip)
 |none=>(#[],.skip,.skip)
def HD (f:List Si->ByteArray) (a:List ByteArray × List (List Si)) (m:List Si):List ByteArray × List (List Si):=if WQ a.1 (f m)=true then a else (a.1++[f m],a.2++[m])
def kB (f:List Si->ByteArray) (l:List (List Si)) (a:List ByteArray × List (List Si)):List ByteArray × List (List Si):=l.foldl (HD f) a
theorem tT (f:List Si->ByteArray):∀ (l:List (List Si)) (a:List ByteArray × List (List Si)),(kB f l a).2.length<=a.2.length+l.length
 | [],a=>ap _
 |m::l,a=>by
  have:=tT f l (HD f a m)
  have h:(HD f a m).2.length<=a.2.length+1:=by
   rw [HD];split
   .omega
   .simp
  rw [kB,gr,<- kB,af];omega
theorem VL (f:List Si->ByteArray) {l:List (List Si)} {k:Nat} {m:List Si} (h:l[k]? =some m) (a:List ByteArray × List (List Si)):kB f (l.take (k+1)) a=HD f (kB f (l.take k) a) m:=by
 rw [dh,h,kB,kB,List.foldl_append];rfl
def fV (l:List (List Si)):List (List AV):=l.map fun m=>[.sl false (mC m)]
theorem j4 (l:List (List Si)):(fV l).length=l.length:=bp ..
theorem uR (l:List (List Si)):∀ e∈fV l,e.length=1:=fun e he=>by
 obtain ⟨x,_,rfl⟩:=cf.1 he
 rfl
theorem cS:∀ l:List (List Si),cQ aE (fV l)=true
 | []=>rfl
 |m::l=>by
  have h:=cS l
  have hm:=cX m
  simp only [fV,ay,cQ,aP,aI,hm,ac] at h ⊢
  exact h
theorem zD (l:List (List Si)) (m:List Si):fV (l++[m])=fV l++[[.sl false (mC m)]]:=by simp [fV]
def oP (c:T) (O:List hI) (M:List Si):T:=if c6 M=true then (match g9 c O c M with
 |some u=>u
 |none=>T.zero) else T.zero
theorem JI (c:T) (O:List hI) (M:List Si):∃ e:Int,rC c O M=.tup [.agg (T.enc (oP c O M)),.int .i64 e]:=by
 rw [rC,oP]
 split
 .cases g9 c O c M with
  |some u=>exact ⟨0,rfl⟩
  |none=>exact ⟨6,rfl⟩
 .exact ⟨1,rfl⟩
noncomputable def LPA (c:T) (OL SC:List (List AV)) (od mi:Nat) (FNV:AV):ARow:=.loop .ready none ((List.range 61).map fun t=>(eJ [(3,.imm (T.enc c)),(4,.imm [.sl false OL]),(6,.ptr 2 0 0),(7,.ptr 3 0 0),(8,.sl false SC),(9,.ptr 5 0 0),(10,.ptr 6 0 0),(29,.int .i64 (od:Nat)),(30,.int .i64 (mi:Nat)),(36,FNV)]).getD t .undef) XW.1 XW.2.1 XW.2.2
noncomputable def AA (c:T) (OL SC:List (List AV)) (od mi:Nat) (FNV:AV) (f:List Si->ByteArray) (L:List (List Si)) (a:List ByteArray × List (List Si)) (k r:Nat):ARow:=
 match r with
 |0=>eX ((kB f (L.take k) a).2.length - 1) (fV (kB f (L.take k) a).2)
 |1=>.none
 |2=>.cells 0 [.sl true []]
 |3=>.cells 0 [.int .i64 0]
 |4=>.map (kS (kB f (L.take k) a).1) (vS (kB f (L.take k) a).1)
 |5=>.cells 0 [.omp 4]
 |6=>.cells 0 [rv 0 ((kB f (L.take k) a).2.length - 1) 1 (fV (kB f (L.take k) a).2)]
 |_=>LPA c OL SC od mi FNV
theorem WK (c:T) (O:List hI) (S:List Si) (od mi many:Nat) (p:Nat->Bool) (hp:∀ r,r<8->p r=true):aG p (LPA c (O.map eE) (mC S) od mi (.fn (.func 86) [] [.imm [.int .i64 (many:Nat)],.imm [.sl false (mC S)]]))=true:=by
 have h1:=bE (p:=p) (T.enc_tree c)
 have h2:=aB (p:=p) (dH O)
 have h3:=aB (p:=p) (cX S)
 rw [LPA,aG]
 have:((List.range 61).map fun t=>(eJ [(3,.imm (T.enc c)),(4,.imm [.sl false (O.map eE)]),(6,.ptr 2 0 0),(7,.ptr 3 0 0),(8,.sl false (mC S)),(9,.ptr 5 0 0),(10,.ptr 6 0 0),(29,.int .i64 (od:Nat)),(30,.int .i64 (mi:Nat)),(36,.fn (.func 86) [] [.imm [.int .i64 (many:Nat)],.imm [.sl false (mC S)]])]).getD t AV.undef)=[.undef,.undef,.undef,.imm (T.enc c),.imm [.sl false (O.map eE)],.undef,.ptr 2 0 0,.ptr 3 0 0,.sl false (mC S),.ptr 5 0 0,.ptr 6 0 0,.undef,.undef,.undef,.undef,.undef,.undef,.undef,.undef,.undef,.undef,.undef,.undef,.undef,.undef,.undef,.undef,.undef,.undef,.int .i64 (od:Nat),.int .i64 (mi:Nat),.undef,.undef,.undef,.undef,.undef,.fn (.func 86) [] [.imm [.int .i64 (many:Nat)],.imm [.sl false (mC S)]],.undef,.undef,.undef,.undef,.undef,.undef,.undef,.undef,.undef,.undef,.undef,.undef,.undef,.undef,.undef,.undef,.undef,.undef,.undef,.undef,.undef,.undef,.undef,.undef]:=rfl
 rw [this]
 simp only [aP,aI,h1,h2,h3,hp _ (by decide:2<8),hp _ (by decide:3<8),hp _ (by decide:5<8),hp _ (by decide:6<8),ai]
end Go.Proofs.YtggflhbigolakaaGreatDoor
