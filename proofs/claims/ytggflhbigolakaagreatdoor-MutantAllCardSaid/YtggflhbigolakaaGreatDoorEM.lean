import Derived.Test.YtggflhbigolakaaGreatDoorUF
import Derived.Test.YtggflhbigolakaaGreatDoorVF
import Derived.Test.YtggflhbigolakaaGreatDoorSD
import Derived.Test.YtggflhbigolakaaGreatDoorYL
set_option linter.unusedSimpArgs false
namespace Go.Proofs.YtggflhbigolakaaGreatDoor
open Go.AM
attribute [local irreducible] cG bG bI bL bW bZ aQ aV bN
set_option maxRecDepth 100000
theorem XT {k n m:Int} {es:List T} (h:T.rg (.mk k n m es)):T.rgs es:=h.2.2.2
theorem T.rgs_of:∀ {es:List T},(∀ e∈es,T.rg e)->T.rgs es
 | [],_=>trivial
 |e::es,h=>⟨h e (by simp),T.rgs_of fun x hx=>h x (by simp [hx])⟩
theorem xU {z:Int} (h1: -1000<=z) (h2:z<=1000):bR z:=⟨by omega,by omega⟩
theorem M3:∀ {p:List Int} {t x:T},T.rg t->T.sub t p=some x->T.rg x
 | [],t,x,h,hs=>by simp only [T.sub,ao] at hs;rwa [<- hs]
 |i::p,.mk k n m es,x,h,hs=>by
  rw [T.sub] at hs
  split at hs
  .split at hs
   .rename_i e he
    exact M3 (T.rgs_mem (XT h) e (aj he)) hs
   .cases hs
  .cases hs
theorem R2 {l:List Int} (h:∀ x∈l,0<=x/\x<=7) (j:Nat):0<=l.getD j 0/\l.getD j 0<=7:=by
 rw [bc]
 cases hx:l[j]? with
 |none=>exact ⟨by decide,by decide⟩
 |some x=>exact h x (aj hx)
mutual
theorem FT:∀ t:T,∀ x∈T.nums t,0<=x/\x<=7
 | .mk k n m es=>by
  rw [T.nums]
  split
  .split
   .intro x hx;rw [bd.1 hx];assumption
   .intro x hx;cases hx
  .exact J8 es
theorem J8:∀ es:List T,∀ x∈T.numss es,0<=x/\x<=7
 | []=>fun x hx=>by cases hx
 |e::es=>fun x hx=>by
  rw [T.numss] at hx
  rcases bo.1 hx with hx|hx
  .exact FT e x hx
  .exact J8 es x hx
end
mutual
theorem FH {A:Int->Int} {H:Int} {kn:List Int} (hkn:∀ x∈kn,0<=x/\x<=7) (hA:∀ i,0<=A i/\A i<=100):∀ (a:Int) (t:T),T.rg t->T.rg (T.pat A H kn a t)
 |a,.mk k n m es,h=>by
  rw [T.pat]
  split
  .refine ⟨xU (by decide) (by decide),?_,xU (by decide) (by decide),trivial⟩
   split
   .have h1:=Int.tmod_nonneg 3 (hA a).1
    have h2:=Int.tmod_lt_of_pos (A a) (b:=3) (by decide)
    exact xU (by omega) (by omega)
   .have:=R2 hkn ((A a).tmod kn.length).toNat
    exact xU (by omega) (by omega)
  .exact ⟨h.1,h.2.1,h.2.2.1,OG hkn hA a 0 es h.2.2.2⟩
theorem OG {A:Int->Int} {H:Int} {kn:List Int} (hkn:∀ x∈kn,0<=x/\x<=7) (hA:∀ i,0<=A i/\A i<=100):∀ (a:Int) (i:Nat) (es:List T),T.rgs es->T.rgs (T.pats A H kn a i es)
 |_,_,[],_=>trivial
 |a,i,e::es,h=>by
  rw [T.pats]
  exact ⟨FH hkn hA _ e h.1,OG hkn hA a (i+1) es h.2⟩
end
mutual
theorem TF:∀ t:T,T.smt t->T.rg t
 | .mk k n m es,h=>⟨xU (by have:=h.1.1;omega) (by have:=h.1.2;omega),xU (by have:=h.2.1.1;omega) (by have:=h.2.1.2;omega),xU (by have:=h.2.2.1.1;omega) (by have:=h.2.2.1.2;omega),OB es h.2.2.2⟩
theorem OB:∀ es:List T,T.smts es->T.rgs es
 | [],_=>trivial
 |e::es,h=>⟨TF e h.1,OB es h.2⟩
end
theorem NR:∀ a b:List AV,AM.wkL (a++b)=AM.wkL a++AM.wkL b
 | [],_=>by simp [AM.wkL]
 |x::a,b=>by simp only [ar,AM.wkL,NR a b]
theorem TY (nm:ByteArray) (f p:T) (b:Int):AM.wk (.agg (sF nm f p b))=.agg (sF nm f p b):=by
 simp only [AM.wk,sF,AM.wkL,NR,T.wk_enc]
def OpV (B:Nat) (v:AV):Prop:=∃ nm f p b,v=.agg (sF nm f p b)/\T.size f<=B/\T.size p<=B/\T.rg f/\T.rg p
theorem OpV.tree {B:Nat} {v:AV} (h:OpV B v):aI aE v=true:=by
 obtain ⟨nm,f,p,b,rfl,_⟩:=h
 simp only [aI]
 exact jL nm f p b
def F6 (t:T):T:=.mk t.kind (-100) t.low t.kids
theorem CI (t:T):T.size (F6 t)=T.size t:=by cases t;rfl
set_option maxHeartbeats 16000000 in
theorem aAU (L:List Int) (hL:∀ x∈L,bR x) (t s:T) (ht:T.size t<=16000000000) (hs:T.size s<=16000000000) (hrt:T.rg t) (hrs:T.rg s):EP Tryz.prog G0 72 [.agg (T.enc t),.agg (T.enc s),cY L] (OpV 16000000000):=by
 have htt:=T.enc_tree t
 have hst:=T.enc_tree s
 have k0:=CO L hL 5 [] true (by simp) _ t 0 (ap _) (by omega)
 have hF:=T.size_pat (A:=fun i=>sG L i 8) (H:=5) (kn:=[]) t 0
 have h8:∀ i,0<=sG L i 8/\sG L i 8<=100:=fun i=>by have:=B1 L i 8 (by decide);omega
 have rF:=FH (A:=fun i=>sG L i 8) (H:=5) (kn:=[]) (fun x hx=>by cases hx) h8 0 t hrt
 generalize T.pat (fun i=>sG L i 8) 5 [] 0 t=F at k0 hF rF
 have kn0:=qE _ F (ap _) (by omega)
 have kn1:=qE _ (F6 F) (ap _) (by rw [CI];omega)
 have hn0:=T.nums_len F
 have hn1:=T.nums_len (F6 F)
 rw [CI] at hn1
 have k1:=fun kn (h:kn.length<=1000000000000)=>CO L hL 4 kn false h _ s 1 (ap _) (by omega)
 have k10:=k1 (T.nums F) (by omega)
 have k11:=k1 (T.nums (F6 F)) (by omega)
 clear k1
 have hP0:=T.size_pat (A:=fun i=>sG L i 8) (H:=4) (kn:=T.nums F) s 1
 have hP1:=T.size_pat (A:=fun i=>sG L i 8) (H:=4) (kn:=T.nums (F6 F)) s 1
 have rP0:=FH (A:=fun i=>sG L i 8) (H:=4) (FT _) h8 1 s hrs (kn:=T.nums F)
 generalize T.pat (fun i=>sG L i 8) 4 (T.nums F) 1 s=P0 at k10 hP0 rP0
 have rP1:=FH (A:=fun i=>sG L i 8) (H:=4) (FT _) h8 1 s hrs (kn:=T.nums (F6 F))
 generalize T.pat (fun i=>sG L i 8) 4 (T.nums (F6 F)) 1 s=P1 at k11 hP1 rP1
 generalize nE (T.nums F)=N0 at kn0 k10
 generalize nE (T.nums (F6 F))=N1 at kn1 k11
 have a7:=v7 L 7 4 hL (by decide)
 have a8:=v7 L 8 2 hL (by decide)
 have a9:=v7 L 9 3 hL (by decide)
 have a10:=v7 L 10 25 hL (by decide)
 have h9:=B1 L 9 3 (by decide)
 generalize sG L 7 4=z7 at a7
 generalize sG L 8 2=z8 at a8
 generalize sG L 10 25=z10 at a10
 obtain ⟨i9,hi9⟩:∃ i:Nat,sG L 9 3=(i:Nat):=⟨(sG L 9 3).toNat,by omega⟩
 rw [hi9] at a9 h9
 have hi3:i9<3:=by omega
 obtain ⟨nm,hnm⟩:∃ nm,([[AV.str ⟨#[109,97,100,101]⟩],[AV.str ⟨#[120]⟩],[AV.str ⟨#[115,119,97,112]⟩]]:List (List AV))[i9]? =some [.str nm]:=by
  have:i9=0\/i9=1\/i9=2:=by omega
  rcases this with rfl|rfl|rfl<;>exact ⟨_,rfl⟩
 have hLt:cQ aE (L.map fun n=>[AV.int .i64 n])=true:=bD L
 simp only [cY,nE,bu] at k0 k10 k11 a7 a8 a9 a10 ⊢
 generalize (L.map fun n=>[AV.int .i64 n])=LE at k0 k10 k11 a7 a8 a9 a10 hLt
 obtain ⟨tk,tn,tm,ts⟩:=t
 obtain ⟨sk,sn,sm,ss⟩:=s
 obtain ⟨fk,fn,fm,fs⟩:=F
 obtain ⟨pk,pn,pm,ps⟩:=P0
 obtain ⟨qk,qn,qm,qs⟩:=P1
 simp only [F6,T.kind,T.num,T.low,T.kids,T.enc] at k0 kn0 kn1 k10 k11 htt hst ⊢
 simp only [T.size] at ht hs hF hP0 hP1
 have n100:bR (-100):=xU (by decide) (by decide)
 have rF':T.rg (.mk fk (-100) fm fs):=⟨rF.1,n100,rF.2.2⟩
 have rP0':T.rg (.mk pk (-100) pm ps):=⟨rP0.1,n100,rP0.2.2⟩
 have rP1':T.rg (.mk qk (-100) qm qs):=⟨rP1.1,n100,rP1.2.2⟩
 refine N4 bX Tryz.func72 rfl (by kernel_rfl) (by simp [Tryz.ntmps72]) (by simp only [aP,aI,ab,ac] at htt hst ⊢;simp only [htt,hst,hLt,ai]) (fun _ h=>h.tree) ?_
 simp only [Tryz.ntmps72,aK,Nat.reduceAdd]
 have e100:((-100:Int)== -100)=true:=rfl
 repeat' (first|(refine cC ?_;simp only [wS,simprocAttr,hnm,hi3,e100])|refine S8|refine j9 bX k0 (gR ?_)|refine j9 bX kn0 (gR ?_)|refine j9 bX kn1 (gR ?_)|refine j9 bX k10 (gR ?_)|refine j9 bX k11 (gR ?_)|refine j9 bX a7 (gR ?_)|refine j9 bX a8 (gR ?_)|refine j9 bX a9 (gR ?_)|refine j9 bX a10 (gR ?_)|with_reducible refine VB (by kernel_rfl) ?_|refine KI (fun _=>?_) (fun _=>?_))
 all_goals (refine PO (v:=?_) rfl ?_ ?_;rotate_left;focus (refine aA;exact rfl))
 all_goals first
  |exact ⟨_,⟨nm,.mk _ _ _ fs,.mk _ _ _ ss,_,TY nm (.mk _ _ _ fs) (.mk _ _ _ ss) _,by simp only [T.size];omega,by simp only [T.size];omega,by assumption,by assumption⟩,rfl⟩
  |exact ⟨_,⟨nm,.mk _ _ _ fs,.mk _ _ _ ps,_,TY nm (.mk _ _ _ fs) (.mk _ _ _ ps) _,by simp only [T.size];omega,by simp only [T.size];omega,by assumption,by assumption⟩,rfl⟩
  |exact ⟨_,⟨nm,.mk _ _ _ fs,.mk _ _ _ qs,_,TY nm (.mk _ _ _ fs) (.mk _ _ _ qs) _,by simp only [T.size];omega,by simp only [T.size];omega,by assumption,by assumption⟩,rfl⟩
end Go.Proofs.YtggflhbigolakaaGreatDoor
