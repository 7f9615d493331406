import Derived.Test.YtggflhbigolakaaGreatDoorEP
import Derived.Test.YtggflhbigolakaaGreatDoorET
namespace Go.Proofs.YtggflhbigolakaaGreatDoor
open Go.AM
attribute [local irreducible] cG bG bI bL bW bZ aQ aV bN
set_option maxRecDepth 100000
theorem OV:∀ a:List Int,mM a a=false
 | []=>rfl
 |x::a=>by simp [mM,OV a]
theorem sB {M M':List Si} (h:M.map Prod.fst=M'.map Prod.fst):c6 M=c6 M':=by
 have hl:M.length=M'.length:=by have:=congrArg List.length h;simpa using this
 rw [c6,c6,h,hl]
theorem JF {P P':List Si} (h:P.map Prod.fst=P'.map Prod.fst) (r:List Si):(P++r).map Prod.fst=(P'++r).map Prod.fst:=by rw [dq,dq,h]
theorem wU {M M':List Si} (h:M.map Prod.fst=M'.map Prod.fst):M.length=M'.length:=by have:=congrArg List.length h;simpa using this
theorem B3 (n:Nat):∀ (l:List Si) (P P':List Si),P.map Prod.fst=P'.map Prod.fst->∀ m∈mL n l P,∃ r,m=P++r/\P'++r∈mL n l P'
 | [],_,_,_,m,h=>by cases h
 | s :: l, P, P', hp, m, h => by
  have hp1:=JF hp [s]
  rw [mL,bo] at h
  rw [mL]
  rcases h with h|h
  .by_cases ha:c6 (P++[s])=true
   .rw [if_pos ha] at h
    have ha':c6 (P'++[s])=true:=by rw [<- sB hp1];exact ha
    rw [if_pos ha']
    by_cases hn:(P++[s]).length=n
    .rw [if_pos hn,bd] at h
     rw [if_pos (by rw [<- wU hp1];exact hn)]
     exact ⟨[s],h,by simp⟩
    .rw [if_neg hn] at h
     rw [if_neg (by rw [<- wU hp1];exact hn)]
     obtain ⟨r,h1,h2⟩:=B3 n l _ _ hp1 m h
     exact ⟨s::r,by rw [h1];simp,gu _ (by simpa using h2)⟩
   .rw [if_neg ha] at h;cases h
  .obtain ⟨r,h1,h2⟩:=B3 n l P P' hp m h
   exact ⟨r,h1,gm _ h2⟩
theorem WB (n:Nat) (l P P':List Si) (hp:P.map Prod.fst=P'.map Prod.fst) (m:List Si) (h:m∈d9 n l P):∃ r,m=P++r/\P'++r∈d9 n l P':=by
 rw [d9] at h ⊢
 by_cases hn:P.length=n
 .rw [if_pos hn,bd] at h
  rw [if_pos (by rw [<- wU hp];exact hn)]
  exact ⟨[],by simpa using h,by simp⟩
 .rw [if_neg hn] at h
  rw [if_neg (by rw [<- wU hp];exact hn)]
  exact B3 n l P P' hp m h
theorem u5 {n:Nat} {s:Si} {l P:List Si} {m:List Si} (h:m∈d9 n l P):m∈d9 n (s::l) P:=by
 rw [d9] at h ⊢
 split at h
 .rename_i hn;rw [if_pos hn];exact h
 .rename_i hn;rw [if_neg hn,mL];exact gm _ h
theorem GQ (f:List Si->ByteArray) (x y:List (List Si)) (a:List ByteArray × List (List Si)):kB f (x++y) a=kB f y (kB f x a):=List.foldl_append ..
theorem tU (f:List Si->ByteArray) (m:List Si) (y:List (List Si)) (a:List ByteArray × List (List Si)):kB f (m::y) a=kB f y (HD f a m):=rfl
theorem VK {f:List Si->ByteArray} {a:List ByteArray × List (List Si)} {m:List Si} {k:ByteArray} (h:k∈a.1):k∈(HD f a m).1:=by
 rw [HD];split
 .exact h
 .exact gu _ h
theorem YX (f:List Si->ByteArray) (a:List ByteArray × List (List Si)) (m:List Si):f m∈(HD f a m).1:=by
 rw [HD];split
 .rename_i h;exact j7.1 h
 .exact gm _ (by simp)
theorem AD {f:List Si->ByteArray}:∀ {l:List (List Si)} {a:List ByteArray × List (List Si)} {k:ByteArray},k∈a.1->k∈(kB f l a).1
 | [],_,_,h=>h
 |_::l,_,_,h=>by rw [tU];exact AD (VK h)
theorem PQ {f:List Si->ByteArray}:∀ {l:List (List Si)} {a:List ByteArray × List (List Si)} {m:List Si},m∈l->f m∈(kB f l a).1
 |x::l,a,m,h=>by
  rw [tU]
  rcases bn.1 h with rfl|h
  .exact AD (YX f a m)
  .exact PQ h
theorem KK {f:List Si->ByteArray}:∀ {l:List (List Si)} {a:List ByteArray × List (List Si)},(∀ m∈l,f m∈a.1)->kB f l a=a
 | [],_,_=>rfl
 |m::l,a,h=>by
  have h1:HD f a m=a:=by rw [HD,if_pos (j7.2 (h m (by simp)))]
  rw [tU,h1]
  exact KK fun x hx=>h x (by simp [hx])
def oK (f:Si->ByteArray):List Si->List Int->List ByteArray->List (Si × Bool)
 | [],_,_=>[]
 |s::ss,at0,met=>if WQ (if s.1=at0 then met else []) (f s)=true then (s,false)::oK f ss s.1 (if s.1=at0 then met else []) else (s,true)::oK f ss s.1 ((if s.1=at0 then met else [])++[f s])
theorem z4 (f:Si->ByteArray):∀ (l:List Si) (at0:List Int) (met:List ByteArray),(oK f l at0 met).map Prod.fst=l
 | [],_,_=>rfl
 |s::l,at0,met=>by
  rw [oK]
  generalize (if s.1=at0 then met else [])=m0
  split<;>simp [z4 f l]
theorem rX (f:Si->ByteArray):∀ (l:List Si) (at0:List Int) (met:List ByteArray),((oK f l at0 met).filter (·.2)).map Prod.fst=iH f l at0 met
 | [],_,_=>rfl
 |s::l,at0,met=>by
  rw [oK,iH]
  generalize (if s.1=at0 then met else [])=m0
  split<;>simp [rX f l]
def Twin (f:Si->ByteArray) (P:List (Si × Bool)) (s:List Int) (k:ByteArray):Prop:=∃ (Q1:List (Si × Bool)) (t:Si) (b:Bool) (Q2:List (Si × Bool)),P=Q1++(t,b)::Q2/\t.1=s/\f t=k/\∀ x∈Q2,x.1.1=s
theorem Twin.snoc {f:Si->ByteArray} {P:List (Si × Bool)} {s:List Int} {k:ByteArray} (h:Twin f P s k) {x:Si × Bool} (hx:x.1.1=s):Twin f (P++[x]) s k:=by
 obtain ⟨Q1,t,b,Q2,h1,h2,h3,h4⟩:=h
 refine ⟨Q1,t,b,Q2++[x],by rw [h1];simp,h2,h3,fun y hy=>?_⟩
 rcases bo.1 hy with hy|hy
 .exact h4 y hy
 .rw [bd.1 hy];exact hx
theorem uX (f:Si->ByteArray):∀ (l:List Si) (at0:List Int) (met:List ByteArray) (P:List (Si × Bool)),(∀ k∈met,Twin f P at0 k)->∀ l1 s l2,oK f l at0 met=l1++(s,false)::l2->Twin f (P++l1) s.1 (f s)
 | [],_,_,_,_,l1,s,l2,h=>by
  rw [oK] at h
  have:=congrArg List.length h
  simp at this
 | s0 :: l, at0, met, P, hm, l1, s, l2, h => by
  obtain ⟨met0,hm0⟩:∃ m,m=if s0.1=at0 then met else []:=⟨_,rfl⟩
  have inv0:∀ k∈met0,Twin f P s0.1 k:=fun k hk=>by
   rw [hm0] at hk
   split at hk
   .rename_i e;rw [e];exact hm k hk
   .cases hk
  rw [oK,<- hm0] at h
  by_cases hi:WQ met0 (f s0)=true
  .rw [if_pos hi] at h
   cases l1 with
   |nil=>
    simp only [ba,de,db,and_true] at h
    rw [<- h.1,br]
    exact inv0 _ (j7.1 hi)
   |cons x l1=>
    simp only [ar,de] at h
    have:=uX f l s0.1 met0 (P++[(s0,false)]) (fun k hk=>(inv0 k hk).snoc rfl) l1 s l2 h.2
    rw [<- h.1]
    simpa using this
  .rw [if_neg hi] at h
   cases l1 with
   |nil=>simp at h
   |cons x l1=>
    simp only [ar,de] at h
    have:=uX f l s0.1 (met0++[f s0]) (P++[(s0,true)]) (fun k hk=>by
     rcases bo.1 hk with hk|hk
     .exact (inv0 k hk).snoc rfl
     .rw [bd.1 hk]
      exact ⟨P,s0,true,[],rfl,rfl,rfl,fun x h=>by cases h⟩) l1 s l2 h.2
    rw [<- h.1]
    simpa using this
section
variable (F:List Si->ByteArray) (f:Si->ByteArray) (n:Nat) (FL:List (Si × Bool)) (htw:∀ l1 s l2,FL=l1++(s,false)::l2->Twin f l1 s.1 (f s))
 (hF:∀ X s t r,s∈FL.map Prod.fst->t∈FL.map Prod.fst->t.1=s.1->f t=f s->F (X++s::r)=F (X++t::r))
include htw hF
theorem wZ:∀ (l l0 pre:List (Si × Bool)) (M:List Si) (a:List ByteArray × List (List Si)),FL=pre++(l0++l)->(pre=[]\/∃ q u b M',pre=q++[(u,b)]/\M=M'++[u])->(∀ t∈l0,c6 (M++[t.1])=true->∀ m∈d9 n (l.map Prod.fst) (M++[t.1]),F m∈a.1)->kB F (mL n (l.map Prod.fst) M) a=kB F (mL n ((l.filter (·.2)).map Prod.fst) M) a
 | [],_,_,_,_,_,_,_=>rfl
 | (s, true) :: l, l0, pre, M, a, hFL, hpre, hseen => by
  have hfil:((s,true)::l).filter (·.2)=(s,true)::l.filter (·.2):=by simp
  rw [hfil,ay,ay,kL,kL,GQ,GQ]
  have hg:kB F (if c6 (M++[s])=true then d9 n (l.map Prod.fst) (M++[s]) else []) a=kB F (if c6 (M++[s])=true then d9 n ((l.filter (·.2)).map Prod.fst) (M++[s]) else []) a:=by
   split
   .rw [d9,d9]
    split
    .rfl
    .exact wZ l [] (pre++l0++[(s,true)]) (M++[s]) a (by rw [hFL];simp) (.inr ⟨pre++l0,s,true,M,rfl,rfl⟩) (fun t ht=>by cases ht)
   .rfl
  rw [<- hg]
  refine wZ l (l0++[(s,true)]) pre M _ (by rw [hFL];simp) hpre fun t ht hap m hm=>?_
  rcases bo.1 ht with ht|ht
  .exact AD (hseen t ht hap m (u5 hm))
  .rw [bd.1 ht] at hap hm
   simp only at hap hm
   rw [if_pos hap]
   exact PQ hm
 | (s, false) :: l, l0, pre, M, a, hFL, hpre, hseen => by
  have hfil:((s,false)::l).filter (·.2)=l.filter (·.2):=by simp
  rw [hfil,ay,kL,GQ]
  have hsm:s∈FL.map Prod.fst:=by rw [hFL];simp
  have hgs : c6 (M ++ [s]) = true -> ∀ m ∈ d9 n (l.map Prod.fst) (M ++ [s]), F m ∈ a.1 := fun hap m hm => by
   obtain ⟨Q1,t,b,Q2,h1,h2,h3,h4⟩:=htw (pre++l0) s l (by rw [hFL];simp)
   have htl:(t,b)∈l0:=by
    rcases hpre with rfl|⟨q,u,b',M',rfl,rfl⟩
    .rw [ba] at h1
     rw [h1];simp
    .have hu:u.1≠s.1:=fun e=>by
      have:=oB hap (i:=M'.length) (j:=M'.length+1) (a:=u) (b:=s) (by omega) (by simp) (by simp)
      rw [e,OV] at this
      cases this
     rw [bj,dw] at h1
     rcases List.append_eq_append_iff.1 h1 with ⟨w,e1,e2⟩|⟨w,e1,e2⟩
     .cases w with
      |nil=>
       rw [ba] at e2
       simp only [de,db] at e2
       exact absurd (by rw [e2.1.1,h2]) hu
      |cons x w=>
       simp only [ar,de] at e2
       rw [e2.2];simp
     .cases w with
      |nil=>
       rw [ba] at e2
       simp only [de,db] at e2
       exact absurd (by rw [<- e2.1.1,h2]) hu
      |cons x w=>
       simp only [ar,de] at e2
       exact absurd (h4 (u,b') (by rw [e2.2];simp)) hu
   have htm:t∈FL.map Prod.fst:=by
    rw [hFL]
    exact cf.2 ⟨(t,b),by simp [htl],rfl⟩
   have hp:(M++[s]).map Prod.fst=(M++[t]).map Prod.fst:=by simp [h2]
   obtain ⟨r,e1,e2⟩:=WB n _ _ _ hp m hm
   have hap':c6 (M++[t])=true:=by rw [<- sB hp];exact hap
   have:=hseen (t,b) htl hap' _ (u5 (s:=s) e2)
   have hc:=hF M s t r hsm htm h2 h3
   rw [e1,bj,dw,hc]
   simpa using this
  have hg:kB F (if c6 (M++[s])=true then d9 n (l.map Prod.fst) (M++[s]) else []) a=a:=by
   split
   .rename_i hap;exact KK (hgs hap)
   .rfl
  rw [hg]
  refine wZ l (l0++[(s,false)]) pre M a (by rw [hFL];simp) hpre fun t ht hap m hm=>?_
  rcases bo.1 ht with ht|ht
  .exact hseen t ht hap m (u5 hm)
  .rw [bd.1 ht] at hap hm
   exact hgs hap m hm
end
theorem VJ (F:List Si->ByteArray) (f:Si->ByteArray) (LR:List Si) (hF:∀ X s t r,s∈LR->t∈LR->t.1=s.1->f t=f s->F (X++s::r)=F (X++t::r)) (n:Nat) (a:List ByteArray × List (List Si)):kB F (d9 n (iH f LR [] []) []) a=kB F (d9 n LR []) a:=by
 have h1:=z4 f LR [] []
 have h2:=rX f LR [] []
 have key:=wZ F f n (oK f LR [] []) (fun l1 s l2 h=>by
  have:=uX f LR [] [] [] (fun k hk=>by cases hk) l1 s l2 h
  simpa using this) (by rw [h1];exact hF) (oK f LR [] []) [] [] [] a (by simp) (.inl rfl) (fun t ht=>by cases ht)
 rw [h1,h2] at key
 rw [d9,d9]
 split
 .rfl
 .exact key.symm
def RU (S:List Si):Nat->List (List Si × Nat)->List (List Si × Nat)
 |0,x=>x
 |d+1,x=>RU S d (x.flatMap fun p=>rY p.1 (S.drop p.2) p.2)
theorem OT (S:List Si):∀ (d:Nat) (x y:List (List Si × Nat)),RU S d (x++y)=RU S d x++RU S d y
 |0,_,_=>rfl
 |d+1,x,y=>by rw [RU,List.flatMap_append,OT S d];rfl
theorem UD (S:List Si):∀ (n d:Nat),lv S (n+d)=RU S d (lv S n)
 |n,0=>rfl
 |n,d+1=>by rw [RU,<- lv,<- UD S (n+1) d];congr 1;omega
theorem wT (S:List Si):∀ d,RU S d []=[]
 |0=>rfl
 |d+1=>by rw [RU,gv,wT S d]
theorem YB (S:List Si):∀ (d:Nat) (k:Nat) (M:List Si),k<=S.length->(RU S d [(M,k)]).map Prod.fst=d9 (M.length+d) (S.drop k) M:=by
 intro d
 induction d with
 |zero=>intro k M _;rw [fy,d9,if_pos rfl];rfl
 |succ d ih=>
  intro k M hk
  rw [RU,ig,gv,br,d9,if_neg (by omega)]
  have go:∀ (j k:Nat),k<=S.length->S.length - k<=j->(RU S d (rY M (S.drop k) k)).map Prod.fst=mL (M.length+(d+1)) (S.drop k) M:=by
   intro j
   induction j with
   |zero=>
    intro k h1 h2
    rw [dz (by omega),rY,mL,wT];rfl
   |succ j ihj=>
    intro k h1 h2
    by_cases hkl:k<S.length
    .rw [cg hkl,rY,kL,OT,dq,ihj (k+1) hkl (by omega)]
     congr 1
     split
     .rw [ih (k+1) _ hkl]
      congr 1
      simp;omega
     .rw [wT];rfl
    .rw [dz (by omega),rY,mL,wT];rfl
  exact go _ k hk (ap _)
theorem wR (S:List Si) (n:Nat):(lv S n).map Prod.fst=d9 n S []:=by
 have h:=UD S 0 n
 rw [cp] at h
 rw [h,lv,YB S n 0 [] (az _),co,ak,cp]
def HE:Nat->Nat->Nat
 |0,_=>1
 |_+1,0=>0
 |k+1,j+1=>HE k j+HE (k+1) j
theorem AJ:∀ (k j:Nat),HE k j<=HE k (j+1)
 |0,_=>by simp [HE]
 |k+1,0=>by simp [HE]
 |k+1,j+1=>by
  have h1:=AJ k j
  have h2:=AJ (k+1) j
  rw [HE,HE];omega
theorem N7 {k:Nat}:∀ {i j:Nat},i<=j->HE k i<=HE k j:=fun {i j} h=>by
 obtain ⟨d,rfl⟩:=Nat.le.dest h
 clear h
 induction d with
 |zero=>exact ap _
 |succ d ih=>exact dj ih (AJ k _)
theorem pX:∀ (l:List Si) (n:Nat) (M:List Si),M.length<=n->(d9 n l M).length<=HE (n - M.length) l.length
 | [],n,M,h=>by
  rw [d9]
  split
  .rename_i e;rw [e,Nat.sub_self];simp [HE]
  .simp [mL]
 |s::l,n,M,h=>by
  rw [d9]
  split
  .rename_i e;rw [e,Nat.sub_self];simp [HE]
  .rename_i e
   obtain ⟨d,hd⟩:∃ d,n - M.length=d+1:=⟨n - M.length - 1,by omega⟩
   have h1:=pX l n (M++[s]) (by simp;omega)
   have h2:=pX l n M h
   rw [d9,if_neg e] at h2
   have e2:n - (M++[s]).length=d:=by simp;omega
   rw [e2] at h1
   rw [hd] at h2 ⊢
   rw [kL,an,af,HE]
   split<;>simp<;>omega
end Go.Proofs.YtggflhbigolakaaGreatDoor
