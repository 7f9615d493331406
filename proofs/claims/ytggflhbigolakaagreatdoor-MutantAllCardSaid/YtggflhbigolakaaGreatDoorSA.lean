import Derived.Test.YtggflhbigolakaaGreatDoorHS
import Derived.Test.YtggflhbigolakaaGreatDoorP5
import Derived.Test.YtggflhbigolakaaGreatDoorT1
set_option linter.unusedSimpArgs false
namespace Go.Proofs.YtggflhbigolakaaGreatDoor
open Go.AM
attribute [local irreducible] cG bG bI bL bW bZ aQ aV bN
set_option maxRecDepth 100000
def dC (x y:Int):Int:=if x<y then -1 else if y<x then 1 else 0
theorem dO {x y:Int}:dC x y=0↔x=y:=by
 unfold dC
 split
 .constructor<;>intro h<;>omega
 .split
  .constructor<;>intro h<;>omega
  .constructor<;>intro h<;>omega
def iW:List Int->Int
 | []=>0
 |x::xs=>if x≠0 then x else iW xs
theorem GK {xs:List Int} {i:Nat} {x:Int} (h:xs[i]? =some x):iW (xs.drop i)=if x≠0 then x else iW (xs.drop (i+1)):=by
 obtain ⟨h1,h2⟩:=aq.1 h
 rw [cg h1,h2,iW]
namespace T
mutual
def cmp:T->T->Int
 |mk k n m es,mk k' n' m' es'=>if dC k k'≠0 then dC k k' else if dC n n'≠0 then dC n n' else if dC m m'≠0 then dC m m' else cmps es es'
def cmps:List T->List T->Int
 | [],[]=>0
 | [],_::_=> -1
 |_::_,[]=>1
 |e::es,e'::es'=>if cmp e e'≠0 then cmp e e' else cmps es es'
end
mutual
theorem VP:∀ a b:T,cmp a b=0↔a=b
 |mk k n m es,mk k' n' m' es'=>by
  have h:=DZ es es'
  rw [cmp]
  split
  .rename_i h1;exact ⟨fun h2=>absurd h2 h1,fun h2=>by injection h2 with a;exact absurd (dO.2 a) h1⟩
  .rename_i h1
   split
   .rename_i h2;exact ⟨fun h3=>absurd h3 h2,fun h3=>by injection h3 with _ a;exact absurd (dO.2 a) h2⟩
   .rename_i h2
    split
    .rename_i h3;exact ⟨fun h4=>absurd h4 h3,fun h4=>by injection h4 with _ _ a;exact absurd (dO.2 a) h3⟩
    .rename_i h3
     rw [h,dO.1 (Decidable.not_not.1 h1),dO.1 (Decidable.not_not.1 h2),dO.1 (Decidable.not_not.1 h3)]
     simp
theorem DZ:∀ a b:List T,cmps a b=0↔a=b
 | [],[]=>by simp [cmps]
 | [],_::_=>by simp [cmps]
 |_::_,[]=>by simp [cmps]
 |e::es,e'::es'=>by
  have h1:=VP e e'
  have h2:=DZ es es'
  rw [cmps]
  split
  .rename_i h;exact ⟨fun h3=>absurd h3 h,fun h3=>by injection h3 with a;exact absurd (h1.2 a) h⟩
  .rename_i h
   rw [h2,h1.1 (Decidable.not_not.1 h)]
   simp
end
theorem cmps_drop {a b:List T} {i:Nat} {x y:T} (ha:a[i]? =some x) (hb:b[i]? =some y):cmps (a.drop i) (b.drop i)=if cmp x y≠0 then cmp x y else cmps (a.drop (i+1)) (b.drop (i+1)):=by
 obtain ⟨h1,h2⟩:=aq.1 ha
 obtain ⟨h3,h4⟩:=aq.1 hb
 rw [cg h1,cg h3,h2,h4,cmps]
theorem cmps_end {a b:List T} {i:Nat} (h:cmps a b=cmps (a.drop i) (b.drop i)) (h1:i<=a.length) (h2:i<=b.length) (h3:i=a.length\/i=b.length):cmps a b=dC (a.length:Int) (b.length:Int):=by
 rw [h]
 rcases h3 with rfl|rfl
 .rw [du]
  cases hb:b.drop a.length with
  |nil=>have:=List.drop_eq_nil_iff.1 hb;rw [cmps,dC,if_neg (by omega),if_neg (by omega)]
  |cons y ys=>
   have:=congrArg List.length hb
   simp only [ik,af] at this
   rw [cmps,dC,if_pos (by omega)]
 .rw [du]
  cases hb:a.drop b.length with
  |nil=>have:=List.drop_eq_nil_iff.1 hb;rw [cmps,dC,if_neg (by omega),if_neg (by omega)]
  |cons y ys=>
   have:=congrArg List.length hb
   simp only [ik,af] at this
   rw [cmps,dC,if_neg (by omega),if_pos (by omega)]
end T
theorem ZH (n:Int):Pure Tryz.prog G0 84 [.int .i64 n] (.bool false):=by
 have e:(n != n)=false:=by simp
 refine aL bX Tryz.func84 rfl (by kernel_rfl) (by simp [Tryz.ntmps84]) (by simp [aP,aI]) (by simp [aI]) ?_
 simp only [Tryz.ntmps84,aK,Nat.reduceAdd]
 refine bB e
 all_goals (refine aD rfl ?_;simp only [wS,simprocAttr,e])
theorem KM (x y:Int):Pure Tryz.prog G0 48 [.int .i64 x,.int .i64 y] (.int .i64 (dC x y)):=by
 have k1:=ZH x
 have k2:=ZH y
 have e0:(x==x)=true:=by simp
 have e1:(y==y)=true:=by simp
 refine aL bX Tryz.func48 rfl (by kernel_rfl) (by simp [Tryz.ntmps48]) (by simp [aP,aI]) (by simp [aI]) ?_
 simp only [Tryz.ntmps48,aK,Nat.reduceAdd]
 refine gU
 all_goals (refine aD rfl ?_;refine aA;refine congrArg (AV.int .i64) ?_;simp_all [dC]<;>omega)
theorem T7 (x y:Int):Pure Tryz.prog G0 80 [.int .i64 x,.int .i64 y] (.int .i64 (dC x y)):=by
 refine aL bX Tryz.func80 rfl (by kernel_rfl) (by simp [Tryz.ntmps80]) (by simp [aP,aI]) (by simp [aI]) ?_
 simp only [Tryz.ntmps80,aK,Nat.reduceAdd]
 refine xC
 all_goals (refine aD rfl ?_;refine aA;refine congrArg (AV.int .i64) ?_;simp_all [dC]<;>omega)
theorem aBb (N:Nat) (ih:∀ x y:T,T.size x<=N->Pure Tryz.prog G0 23 [.agg (T.enc x),.agg (T.enc y)] (.int .i64 (T.cmp x y))) (a b:List T) (ha:T.sizes a<=N) (hN:N<=100000000000000000):
  Pure Tryz.prog G0 57 [.sl false (T.encs a),.sl false (T.encs b),.fn (.func 23) [] []] (.int .i64 (T.cmps a b)):=by
 have h1t:=T.encs_tree a
 have h2t:=T.encs_tree b
 have hla:=T.len_sizes a
 have hga:=fun (i:Nat) (e:T)=>T.encs_get (es:=a) (i:=i) (e:=e)
 have hgb:=fun (i:Nat) (e:T)=>T.encs_get (es:=b) (i:=i) (e:=e)
 have hna:=T.encs_len a
 have hnb:=T.encs_len b
 refine aL bX Tryz.func57 rfl (by kernel_rfl) (by simp [Tryz.ntmps57]) (by simp only [aP,aI,h1t,h2t,ai]) (by simp [aI]) ?_
 simp only [Tryz.ntmps57,aK,Nat.reduceAdd]
 generalize T.encs a=A at h1t hga hna ⊢
 generalize T.encs b=B at h2t hgb hnb ⊢
 refine aF
 refine aJ (α:={i:Nat // i<=a.length/\i<=b.length/\T.cmps a b=T.cmps (a.drop i) (b.drop i)}) (fun i=>[(0,.sl false A),(1,.sl false B),(2,.fn (.func 23) [] []),(11,.sl false A),(12,.int .i64 (A.length:Nat)),(13,.int .i64 (i.1:Nat))]) (fun i=>[]) (fun i=>a.length - i.1) ⟨0,az _,az _,rfl⟩ (Weak.ref ⟨?_,.inl ?_⟩) ?_
 .exact aZ
 .exact aZ
 .rintro ⟨i,hi1,hi2,hi3⟩ K hK
  try simp only at hi1 hi2 hi3
  by_cases hlt:i<a.length
  .have c1:decide (((i:Nat):Int)<((A.length:Nat):Int))=true:=by simp;omega
   obtain ⟨x,hx⟩:∃ x,a[i]? =some x:=⟨_,ah hlt⟩
   have gx:=hga i x hx
   have e3:=aO (k:=i) hlt (by omega)
   have hA:i<A.length:=by omega
   by_cases hlb:i<b.length
   .have c2:decide (((i:Nat):Int) >= ((B.length:Nat):Int))=false:=by simp;omega
    obtain ⟨y,hy⟩:∃ y,b[i]? =some y:=⟨_,ah hlb⟩
    have gy:=hgb i y hy
    have hB:i<B.length:=by omega
    have hd:=T.cmps_drop hx hy
    have kc:=ih x y (by have:=T.size_mem (aj hx);omega)
    generalize T.cmp x y=cv at hd kc
    obtain ⟨xa,xb,xc,xd,hxe⟩:=aN x
    obtain ⟨ya,yb,yc,yd,hye⟩:=aN y
    rw [hxe] at gx kc
    rw [hye] at gy kc
    refine c7 (eT gx gy hA hB c1 c2 e3)
    .refine aD rfl ?_
     refine aA
     rw [hi3,hd,if_pos (by simp_all)]
    .refine hK.go ⟨i+1,hlt,hlb,by rw [hi3,hd,if_neg (by simp_all)]⟩ aX (by simp only;omega)
     .exact aZ
     .exact aZ
     .intro z hz
      replace hz:=aC hz
      rcases hz with rfl|rfl|rfl|rfl|rfl|rfl<;>first|rfl|(simp only [aI];first|exact aB h1t|exact aB h2t)
     .refine aS;try exact rfl
   .have c2:decide (((i:Nat):Int) >= ((B.length:Nat):Int))=true:=by simp;omega
    have he:=T.cmps_end hi3 hi1 hi2 (.inr (by omega))
    obtain ⟨xa,xb,xc,xd,hxe⟩:=aN x
    rw [hxe] at gx
    refine bB (dV gx hA c1 c2)
    refine aD rfl ?_
    refine aA
    rw [he,dC,if_neg (by omega),if_pos (by omega)]
  .have c1:decide (((i:Nat):Int)<((A.length:Nat):Int))=false:=by simp;omega
   have he:=T.cmps_end hi3 hi1 hi2 (.inl (by omega))
   refine bB c1
   .refine aD rfl ?_
    refine aA
    rw [he,dC,if_pos (by simp_all)]
   .refine aD rfl ?_
    refine aA
    rw [he,dC,if_neg (by simp_all),if_neg (by simp_all<;>omega)]
theorem aB9 (b:Bool) (xs:List Int) (hx:xs.length<=1000000):Pure Tryz.prog G0 47 [.sl b (aT xs)] (.int .i64 (iW xs)):=by
 have ht:cQ aE (aT xs)=true:=bD xs
 have hn:(aT xs).length=xs.length:=by simp [aT]
 have hg:∀ (i:Nat) (v:Int),xs[i]? =some v->(aT xs)[i]? =some [.int .i64 v]:=fun i v h=>by simp [aT,h]
 generalize aT xs=LE at ht hn hg ⊢
 refine aL bX Tryz.func47 rfl (by kernel_rfl) (by simp [Tryz.ntmps47]) (by simp only [aP,aI,ht,ai]) (by simp [aI]) ?_
 simp only [Tryz.ntmps47,aK,Nat.reduceAdd]
 refine aF
 refine aJ (α:={i:Nat // i<=xs.length/\iW (xs.drop i)=iW xs}) (fun i=>[(3,.int .i64 0),(6,.sl b LE),(7,.int .i64 (LE.length:Nat)),(8,.int .i64 (i.1:Nat))]) (fun i=>[]) (fun i=>xs.length - i.1) ⟨0,az _,rfl⟩ (Weak.ref ⟨?_,.inl ?_⟩) ?_
 .exact aZ
 .exact aZ
 .rintro ⟨i,hi,hf⟩ K hK
  try simp only at hi hf
  by_cases hlt:i<xs.length
  .have c1:decide (((i:Nat):Int)<((LE.length:Nat):Int))=true:=by simp;omega
   obtain ⟨v,hx⟩:∃ v,xs[i]? =some v:=⟨_,ah (by omega)⟩
   have gx:=hg i v hx
   have hE:i<LE.length:=by omega
   have e3:=aO (k:=i) hlt (by omega)
   have hd:=GK hx
   refine bB (dV gx hE c1 e3)
   .refine aD rfl ?_
    refine aA
    rw [<- hf,hd,if_pos (by simp_all)]
   .refine hK.go ⟨i+1,hlt,by rw [<- hf,hd,if_neg (by simp_all)]⟩ aX (by simp only;omega)
    .exact aZ
    .exact aZ
    .intro z hz
     replace hz:=aC hz
     rcases hz with rfl|rfl|rfl|rfl<;>first|rfl|(simp only [aI];exact aB ht)
    .refine aS;try exact rfl
  .have c1:decide (((i:Nat):Int)<((LE.length:Nat):Int))=false:=by simp;omega
   have:i=xs.length:=by omega
   refine bB c1
   refine aD rfl ?_
   refine aA
   rw [<- hf,this,du];rfl
theorem aDe (a b c d:Int):iW [a,b,c,d]=if a≠0 then a else if b≠0 then b else if c≠0 then c else d:=by
 simp only [iW]
 split<;>(try rfl)
 split<;>(try rfl)
 split<;>(try rfl)
 split
 .rfl
 .rename_i h;exact (Decidable.not_not.1 h).symm
theorem SR:∀ (N:Nat) (a b:T),T.size a<=N->N<=100000000000000000->Pure Tryz.prog G0 23 [.agg (T.enc a),.agg (T.enc b)] (.int .i64 (T.cmp a b)):=by
 intro N
 induction N with
 |zero=>intro a b h;have:=T.size_pos a;omega
 |succ N ih=>
  intro a b hs hN
  have h1t:=T.enc_tree a
  have h2t:=T.enc_tree b
  obtain ⟨k,n,m,es⟩:=a
  obtain ⟨k',n',m',es'⟩:=b
  simp only [T.size] at hs
  have kf:=aBb N (fun x y h=>ih x y h (by omega)) es es' (by omega) (by omega)
  have k1:=KM k k'
  have k2:=KM n n'
  have k3:=KM m m'
  have k4:Pure Tryz.prog G0 47 [.sl true [[.int .i64 (dC k k')],[.int .i64 (dC n n')],[.int .i64 (dC m m')],[.int .i64 (T.cmps es es')]]] _:=aB9 true [dC k k',dC n n',dC m m',T.cmps es es'] (by simp)
  rw [T.cmp,<- aDe]
  refine aL bX Tryz.func23 rfl (by kernel_rfl) (by simp [Tryz.ntmps23]) (by simp only [aP,aI,h1t,h2t,ai]) (by simp [aI]) ?_
  simp only [Tryz.ntmps23,aK,Nat.reduceAdd]
  simp only [T.enc]
  refine gU
  refine aD rfl ?_
  refine aA
theorem aAv : ∀ (N : Nat) (a b : T), T.size a <= N -> N <= 100000000000000000 -> Pure Tryz.prog G0 45 [.agg (T.enc a), .agg (T.enc b)] (.int .i64 (T.cmp a b)) := by
 intro N
 induction N with
 |zero=>intro a b h;have:=T.size_pos a;omega
 | succ N ih =>
  intro a b hs hN
  have h1t:=T.enc_tree a
  have h2t:=T.enc_tree b
  obtain ⟨k,n,m,es⟩:=a
  obtain ⟨k',n',m',es'⟩:=b
  simp only [T.size] at hs
  have hls:=T.len_sizes es
  obtain ⟨V,hV⟩:∃ v,v=T.cmp (.mk k n m es) (.mk k' n' m' es'):=⟨_,rfl⟩
  rw [<- hV]
  rw [T.cmp] at hV
  refine aL bX Tryz.func45 rfl (by kernel_rfl) (by simp [Tryz.ntmps45]) (by simp only [aP,aI,h1t,h2t,ai]) (by simp [aI]) ?_
  simp only [Tryz.ntmps45,aK,Nat.reduceAdd]
  simp only [T.enc]
  have hgt:=fun (i:Nat) (e:T)=>T.encs_get (es:=es) (i:=i) (e:=e)
  have hgt':=fun (i:Nat) (e:T)=>T.encs_get (es:=es') (i:=i) (e:=e)
  have hln:=T.encs_len es
  have hln':=T.encs_len es'
  have hte:=T.encs_tree es
  have hte':=T.encs_tree es'
  generalize T.encs es=EE at hgt hln hte
  generalize T.encs es'=EE' at hgt' hln' hte'
  have hsg:=T7 (EE.length:Nat) (EE'.length:Nat)
  refine aF
  obtain ⟨XX,hXX⟩:∃ x:List (List AV),x=[[.int .i64 k],[.int .i64 n],[.int .i64 m]]:=⟨_,rfl⟩
  obtain ⟨YY,hYY⟩:∃ x:List (List AV),x=[[.int .i64 k'],[.int .i64 n'],[.int .i64 m']]:=⟨_,rfl⟩
  obtain ⟨F,hF⟩:∃ F:Nat->Int × Int,F=fun i=>if i=0 then (k,k') else if i=1 then (n,n') else (m,m'):=⟨_,rfl⟩
  have hXl:XX.length=3:=by rw [hXX];rfl
  have hYl:YY.length=3:=by rw [hYY];rfl
  have hXt:cQ aE XX=true:=by rw [hXX];rfl
  have hYt:cQ aE YY=true:=by rw [hYY];rfl
  have hXg:∀ i,i<3->XX[i]? =some [AV.int .i64 (F i).1]/\YY[i]? =some [AV.int .i64 (F i).2]:=fun i hi=>by
   have:i=0\/i=1\/i=2:=by omega
   rw [hXX,hYY,hF]
   rcases this with rfl|rfl|rfl<;>exact ⟨rfl,rfl⟩
  have hfin:(∀ j,j<3->(F j).1=(F j).2)->V=T.cmps es es':=fun h=>by
   have a1:k=k':=by have:=h 0 (by decide);rw [hF] at this;exact this
   have a2:n=n':=by have:=h 1 (by decide);rw [hF] at this;exact this
   have a3:m=m':=by have:=h 2 (by decide);rw [hF] at this;exact this
   rw [hV,if_neg (by simp [dO.2 a1]),if_neg (by simp [dO.2 a2]),if_neg (by simp [dO.2 a3])]
  have hbad:∀ i,i<3->(∀ j,j<i->(F j).1=(F j).2)->(F i).1≠(F i).2->V=dC (F i).1 (F i).2:=fun i hi h hne=>by
   have:i=0\/i=1\/i=2:=by omega
   have e0:F 0=(k,k'):=by rw [hF];rfl
   have e1:F 1=(n,n'):=by rw [hF];rfl
   have e2:F 2=(m,m'):=by rw [hF];rfl
   rcases this with rfl|rfl|rfl
   .rw [e0] at hne ⊢
    rw [hV,if_pos (fun h=>hne (dO.1 h))]
   .have a1:=h 0 (by decide)
    rw [e0] at a1;rw [e1] at hne ⊢
    rw [hV,if_neg (by simp [dO.2 a1]),if_pos (fun h=>hne (dO.1 h))]
   .have a1:=h 0 (by decide)
    have a2:=h 1 (by decide)
    rw [e0] at a1;rw [e1] at a2;rw [e2] at hne ⊢
    rw [hV,if_neg (by simp [dO.2 a1]),if_neg (by simp [dO.2 a2]),if_pos (fun h=>hne (dO.1 h))]
  refine aJ (α:={i:Nat // i<=3/\∀ j,j<i->(F j).1=(F j).2}) (fun i=>[(2,.ptr 0 0 0),(3,.ptr 1 0 0),(5,.sl true XX),(6,.sl true YY),(7,.int .i64 (i.1:Nat))]) (fun i=>[.cells 0 [.int .i64 k,.int .i64 n,.int .i64 m,.sl false EE],.cells 0 [.int .i64 k',.int .i64 n',.int .i64 m',.sl false EE']]) (fun i=>3 - i.1) ⟨0,az _,fun j h=>absurd h (bm j)⟩ (Weak.ref ⟨?_,.inl ?_⟩) ?_
  .simp only [wS,simprocAttr,hXX,hYY];try exact rfl
  .exact aZ
  .clear hF hXX hYY hV h1t h2t
   rintro ⟨i,hi,hpre⟩ K hK
   by_cases hlt:i<3
   .have c1:decide (((i:Nat):Int)<3)=true:=by simp;omega
    obtain ⟨gx,gy⟩:=hXg i hlt
    have e3:=aO (k:=i) hlt (by omega)
    have hA:i<XX.length:=by omega
    have hB:i<YY.length:=by omega
    have hb:=hbad i hlt hpre
    have ks:=T7 (F i).1 (F i).2
    have hnext:(F i).1=(F i).2->∀ j,j<i+1->(F j).1=(F j).2:=fun h j hj=>by
     rcases jc.1 hj with hj|rfl
     .exact hpre j hj
     .exact h
    generalize (F i).1=fa at gx hb ks hnext
    generalize (F i).2=fb at gy hb ks hnext
    refine c7 (f9 gx gy hA hB c1 e3)
    .refine aD rfl ?_
     refine aA
     rw [hb (by simp_all)]
    .refine hK.go ⟨i+1,hlt,hnext (by simp_all)⟩ aX (by simp only;omega)
     .exact aZ
     .exact aZ
     .intro z hz
      replace hz:=aC hz
      rcases hz with rfl|rfl|rfl|rfl|rfl<;>first|rfl|(simp only [aI];first|exact aB hXt|exact aB hYt)
     .refine aS;try exact ⟨by simp only [aG,aP,aI,ac,aB hte,ai],by simp only [aG,aP,aI,ac,aB hte',ai]⟩
   .have c1 : decide (((i : Nat) : Int) < 3) = false := by simp; omega
    have hV:=hfin fun j hj=>hpre j (by omega)
    clear hbad hXg
    refine aR c1
    refine aJ (α:={i:Nat // i<=es.length/\i<=es'.length/\T.cmps es es'=T.cmps (es.drop i) (es'.drop i)}) (fun i=>[(2,.ptr 0 0 0),(3,.ptr 1 0 0),(8,.int .i64 (i.1:Nat))]) (fun i=>[.cells 0 [.int .i64 k,.int .i64 n,.int .i64 m,.sl false EE],.cells 0 [.int .i64 k',.int .i64 n',.int .i64 m',.sl false EE']]) (fun i=>es.length - i.1) ⟨0,az _,az _,rfl⟩ (Weak.ref ⟨?_,.inl ?_⟩) ?_
    .exact aZ
    .exact aZ
    .clear hK hpre hlt c1
     rintro ⟨i,hi1,hi2,hi3⟩ K hK
     by_cases hlt:i<es.length
     .have c1:decide (((i:Nat):Int)<((EE.length:Nat):Int))=true:=by simp;omega
      obtain ⟨x,hx⟩:∃ x,es[i]? =some x:=⟨_,ah hlt⟩
      have gx:=hgt i x hx
      have e3:=aO (k:=i) hlt (by omega)
      have hA:i<EE.length:=by omega
      by_cases hlb:i<es'.length
      .have c2:decide (((i:Nat):Int)<((EE'.length:Nat):Int))=true:=by simp;omega
       obtain ⟨y,hy⟩:∃ y,es'[i]? =some y:=⟨_,ah hlb⟩
       have gy:=hgt' i y hy
       have hB:i<EE'.length:=by omega
       have hd:=T.cmps_drop hx hy
       have kc:=ih x y (by have:=T.size_mem (aj hx);omega) (by omega)
       generalize T.cmp x y=cv at hd kc
       obtain ⟨xa,xb,xc,xd,hxe⟩:=aN x
       obtain ⟨ya,yb,yc,yd,hye⟩:=aN y
       rw [hxe] at gx kc
       rw [hye] at gy kc
       refine c7 (eT gx gy hA hB c1 c2 e3)
       .refine aD rfl ?_
        refine aA
        rw [hV,hi3,hd,if_pos (by simp_all)]
       .refine hK.go ⟨i+1,hlt,hlb,by rw [hi3,hd,if_neg (by simp_all)]⟩ aX (by simp only;omega)
        .exact aZ
        .exact aZ
        .intro z hz
         replace hz:=aC hz
         rcases hz with rfl|rfl|rfl<;>first|rfl|rfl
        .refine aS;try exact ⟨by simp only [aG,aP,aI,ac,aB hte,ai],by simp only [aG,aP,aI,ac,aB hte',ai]⟩
      .have c2:decide (((i:Nat):Int)<((EE'.length:Nat):Int))=false:=by simp;omega
       have he:=T.cmps_end hi3 hi1 hi2 (.inr (by omega))
       refine c7 (bF c1 c2)
       refine aD rfl ?_
       refine aA
       rw [hV,he,hln,hln']
     .have c1:decide (((i:Nat):Int)<((EE.length:Nat):Int))=false:=by simp;omega
      have he:=T.cmps_end hi3 hi1 hi2 (.inl (by omega))
      have c2:True:=trivial
      refine c7 (bF c1 c2)
      refine aD rfl ?_
      refine aA
      rw [hV,he,hln,hln']
theorem T8 (a b:T) (h:T.size a<=100000000000000000):Pure Tryz.prog G0 15 [.agg (T.enc a),.agg (T.enc b)] (.bool (T.cmp a b==0)):=by
 have h1t:=T.enc_tree a
 have h2t:=T.enc_tree b
 have kc:=aAv _ a b (ap _) h
 refine aL bX Tryz.func15 rfl (by kernel_rfl) (by simp [Tryz.ntmps15]) (by simp only [aP,aI,h1t,h2t,ai]) (by simp [aI]) ?_
 simp only [Tryz.ntmps15,aK,Nat.reduceAdd]
 obtain ⟨xa,xb,xc,xd,hxe⟩:=aN a
 obtain ⟨ya,yb,yc,yd,hye⟩:=aN b
 rw [hxe,hye] at kc ⊢
 refine gU
 refine aD rfl ?_
 refine aA
end Go.Proofs.YtggflhbigolakaaGreatDoor
