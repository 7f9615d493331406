import Derived.Test.YtggflhbigolakaaGreatDoorUL
import Derived.Test.YtggflhbigolakaaGreatDoorV2
import Derived.Test.YtggflhbigolakaaGreatDoorUM
set_option linter.unusedVariables false
set_option linter.unusedSimpArgs false
namespace Go.Proofs.YtggflhbigolakaaGreatDoor
open Go.AM
attribute [local irreducible] AWp aY bC bI bU bW aN aS bL
set_option maxRecDepth 100000
def iX (s:Si):List Si→List Si
 | []=>[s]
 |m::l=>if gV s m<0 then s::m::l else m::iX s l
theorem uP (s:Si):∀ M:List Si,(iX s M).length=M.length+1
 | []=>rfl
 |m::l=>by
  rw [iX]
  split
  ·rfl
  ·simp [uP s l]
theorem uO (s:Si):∀ (M:List Si) (x:Si),x∈iX s M→x=s∨x∈M
 | [],x,h=>.inl (by simpa [iX] using h)
 |m::l,x,h=>by
  rw [iX] at h
  split at h
  ·simpa using h
  ·rcases List.mem_cons.1 h with rfl|h
   ·exact .inr (by simp)
   ·rcases uO s l x h with h|h
    ·exact .inl h
    ·exact .inr (by simp [h])
theorem kN (a b:List Si):mC (a++b)=mC a++mC b:=List.map_append
theorem oI (M:List Si):∀ e∈mC M,e.length=2:=fun e he=>by
 obtain ⟨x,_,rfl⟩:=List.mem_map.1 he
 rfl
theorem OO:∀ M:List Si,(mC M).map wkL=mC M
 | []=>rfl
 |s::M=>by
  have h:=OO M
  have h2:=D3 [s.1]
  simp only [PE,List.map_cons,List.map_nil,wkL,List.cons.injEq,and_true] at h2
  simp only [mC,List.map_cons,wkL,AM.wk,List.cons.injEq,and_true] at h ⊢
  exact ⟨h2,h⟩
theorem ON (M:List Si):AM.wk (mV M)=mV M:=by simp only [mV,AM.wk,wkL,dI,OO]
theorem sF (M:List Si):inR aC (mV M)=true:=by simp only [mV,inR,inL,cK,Bool.and_self]
theorem BZ {α:Type} {l:List α}:l.length=if l=[] then 0 else l.length - 1+1:=by
 by_cases h:l=[]
 ·rw [if_pos h,h];rfl
 ·rw [if_neg h]
  have:l.length≠0:=fun e=>h (List.eq_nil_of_length_eq_zero e)
  omega
set_option maxHeartbeats 16000000 in
theorem L2 (M:List Si) (s:Si) (hM:M.length≤1000) (hp:∀ s∈M,s.1.length≤1000000000000000) (hs:s.1.length≤1000000000000000):Pure Tryz.prog G0 37 [mV M,.agg [.sl false (aE s.1),.int .i64 s.2]] (mV (iX s M)):=by
 have hwk:=ON (iX s M)
 have htV:=sF (iX s M)
 have ht:=cK M
 have hn:=gQ M
 have hg:=fun (i:Nat) (s:Si)=>jG (M:=M) (i:=i) (s:=s)
 have h2t:inE aC (aE s.1)=true:=aW s.1
 obtain ⟨R,hR⟩:∃ R,R=iX s M:=⟨_,rfl⟩
 rw [← hR] at hwk htV ⊢
 have hks:=fun (x:Si)=>GP s x hs
 simp only [mV] at hwk htV ⊢
 generalize mC M=MC at ht hn hg ⊢
 refine aU hG0 Tryz.func37 rfl (by kernel_rfl) (by simp [Tryz.ntmps37]) (by simp only [inL,inR,ht,h2t,Bool.and_self]) (by exact htV) ?_
 simp only [Tryz.ntmps37,aH,Nat.reduceAdd]
 refine jD ?_
 repeat' (first|(refine u'S ?_;simp only [wS,simprocAttr])|refine u'Q fun _ _=>?_|refine aV ?_|refine aR (fun hg=>?_) fun hg=>?_|fail)
 refine aJ (α:={y:Nat × Bool × List Si // y.1≤M.length∧y.2.2.length≤y.1+1∧((y.2.1=true∧y.2.2++M.drop y.1=R)∨(y.2.1=false∧y.2.2=M.take y.1∧R=M.take y.1++iX s (M.drop y.1)))}) (fun y=>[(2,.ptr 0 0 0),(3,.ptr 1 0 0),(4,.ptr 2 0 0),(5,.ptr 3 0 0),(6,.bool y.1.2.1),(7,.int .i64 (y.1.1:Nat))]) (fun y=>[.cells 0 [.sl false MC],.cells 0 [.sl false (aE s.1),.int .i64 s.2],.cells 0 [.sl true []],.cells 0 [rv 4 ((mC y.1.2.2).length - 1) 2 (mC y.1.2.2)],rvR ((mC y.1.2.2).length - 1) (mC y.1.2.2)]) (fun y=>M.length - y.1.1) ⟨(0,false,[]),Nat.zero_le _,Nat.zero_le _,.inr ⟨rfl,rfl,hR⟩⟩ (bN [] (kp [0,1,2,3,4]) hG0 (fun r hr=>absurd hr (Nat.not_lt_zero r)) ?_ ?_ ?_) ?_
 ·simp only [wS,simprocAttr,cS,Frz,and_true,true_or]
 ·rfl
 ·simp only [wS,simprocAttr,mC,List.map_nil,dS,dM]
  simp only [ToH,and_true]
  exact ⟨kr rfl (aD (by simp only [inL,inR,ht,Bool.and_self])) (by simp),kr rfl (aD (by simp only [inL,inR,h2t,Bool.and_self])) (by simp),kr rfl rfl (by simp),.inr ⟨rfl,rfl,.inr ⟨.inl (by simp),.inr ⟨0,_,_,rfl,rfl,.inr .toRsv,trivial⟩⟩⟩⟩
 ·rintro ⟨⟨i,dn,out⟩,hi,hol,hinv⟩ K hK
  try simp only at hi hol hinv
  have hot:=cK out
  have hol':=gQ out
  have ho2:=oI out
  have hvv:=BZ (l:=mC out)
  by_cases hlt:i<M.length
  ·have c1:decide (((i:Nat):Int)<((MC.length:Nat):Int))=true:=by simp;omega
   have e3:=aL (k:=i) hlt (by omega)
   obtain ⟨x,hx⟩:∃ x,M[i]? =some x:=⟨_,List.getElem?_eq_getElem hlt⟩
   have gx:=hg i x hx
   have hA:i<MC.length:=by omega
   have hd:M.drop i=x::M.drop (i+1):=by
    obtain ⟨q1,q2⟩:=List.getElem?_eq_some_iff.1 hx
    rw [List.drop_eq_getElem_cons q1,q2]
   have htk:M.take (i+1)=M.take i++[x]:=by rw [List.take_add_one,hx];rfl
   have hma:mC (out++[x])=mC out++[[.sl false (aE x.1),.int .i64 x.2]]:=kN _ _
   have hml:(mC out++[[AV.sl false (aE x.1),AV.int .i64 x.2]]).length - 1=(mC out).length:=by simp
   have hmt:=cK (out++[x])
   rcases hinv with ⟨rfl,h1⟩|⟨rfl,h1,h2⟩
   ·have hinv':(out++[x]).length≤i+1+1∧((true=true∧(out++[x])++M.drop (i+1)=R)∨(true=false∧out++[x]=M.take (i+1)∧R=M.take (i+1)++iX s (M.drop (i+1)))):=⟨by rw [List.length_append];simp;omega,.inl ⟨rfl,by rw [List.append_assoc];show out++(x::M.drop (i+1))=R;rw [← hd];exact h1⟩⟩
    repeat' (first|(refine u'S ?_;simp only [wS,simprocAttr,gx,hA,c1,e3,Bool.not_true,Bool.not_false,↓aM,↓aF])|refine u'Q fun _ _=>?_|refine aO ?_|refine aP (fun hg=>?_) fun hg=>?_|refine b8 (v':=(mC out).length) (es:=[[.sl false (aE x.1),.int .i64 x.2]]) (by':=32) (by kernel_rfl) u'p hvv ho2 (by simp [cJ]) (by simp) (by simp only [List.length_cons,List.length_nil,List.length_append];omega) (u'T ?_))
    refine hK.go ⟨(i+1,true,out++[x]),hlt,hinv'.1,hinv'.2⟩ (Weak.ref ⟨?_,.inr ⟨by first|exact Nat.zero_le _|exact Nat.le_refl _|simp,?_,fun g cs hg=>aD (hG0 g cs hg),?_,?_⟩⟩) (by simp only;omega)
    ·simp only [wS,simprocAttr,↓aM,↓aF];try exact rfl
    ·simp only [wS,simprocAttr,hml,hma];try exact rfl
    ·intro z hz
     simp only [List.mem_cons,List.not_mem_nil,or_false] at hz
     rcases hz with rfl|rfl|rfl|rfl|rfl|rfl<;>first|rfl|rfl
    ·simp only [List.all_cons,List.all_nil,Bool.and_true,Bool.and_eq_true];try exact ⟨aD (by simp only [inL,inR,ht,Bool.and_self]),aD (by simp only [inL,inR,h2t,Bool.and_self]),rfl,  by simp only [aG,inL,Bool.and_true];exact cH rfl,bQ (aA hmt)⟩
   ·have kc:=hks x
    rw [hd,iX] at h2
    by_cases hc:gV s x<0
    ·rw [if_pos hc] at h2
     have c2:decide (gV s x<0)=true:=by simp [hc]
     have hma2:mC (out++[s])=mC out++[[.sl false (aE s.1),.int .i64 s.2]]:=kN _ _
     have hma3:mC ((out++[s])++[x])=mC out++[[.sl false (aE s.1),.int .i64 s.2]]++[[.sl false (aE x.1),.int .i64 x.2]]:=by rw [kN,hma2];rfl
     have ho2':∀ e∈mC out++[[.sl false (aE s.1),.int .i64 s.2]],e.length=2:=by rw [← hma2];exact oI _
     have hvv':(mC out).length+1=if mC out++[[.sl false (aE s.1),.int .i64 s.2]]=[] then 0 else (mC out).length+1:=by rw [if_neg (by simp)]
     have hml':(mC out++[[AV.sl false (aE s.1),AV.int .i64 s.2]]++[[AV.sl false (aE x.1),AV.int .i64 x.2]]).length - 1=(mC out).length+1:=by simp
     have hmt':=cK ((out++[s])++[x])
     have hinv':((out++[s])++[x]).length≤i+1+1∧((true=true∧((out++[s])++[x])++M.drop (i+1)=R)∨(true=false∧(out++[s])++[x]=M.take (i+1)∧R=M.take (i+1)++iX s (M.drop (i+1)))):=⟨by rw [List.length_append,List.length_append,h1,List.length_take];simp;omega,.inl ⟨rfl,by rw [h2,h1];simp⟩⟩
     generalize gV s x=cv at kc c2
     repeat' (first|(refine u'S ?_;simp only [wS,simprocAttr,gx,hA,c1,e3,c2,Bool.not_true,Bool.not_false,↓aM,↓aF])|refine u'Q fun _ _=>?_|refine aO ?_|refine aP (fun hg=>?_) fun hg=>?_|refine u'G ?_|refine b8 (v':=(mC out).length) (es:=[[.sl false (aE s.1),.int .i64 s.2]]) (by':=32) (by kernel_rfl) u'p hvv ho2 (by simp [cJ]) (by simp) (by simp only [List.length_cons,List.length_nil,List.length_append];omega) (u'T ?_)|refine b8 (v':=(mC out).length+1) (es:=[[.sl false (aE x.1),.int .i64 x.2]]) (by':=32) (by kernel_rfl) u'p hvv' ho2' (by simp [cJ]) (by simp) (by simp only [List.length_cons,List.length_nil,List.length_append];omega) (u'T ?_))
     refine hK.go ⟨(i+1,true,(out++[s])++[x]),hlt,hinv'.1,hinv'.2⟩ (Weak.ref ⟨?_,.inr ⟨by first|exact Nat.zero_le _|exact Nat.le_refl _|simp,?_,fun g cs hg=>aD (hG0 g cs hg),?_,?_⟩⟩) (by simp only;omega)
     ·simp only [wS,simprocAttr,↓aM,↓aF];try exact rfl
     ·simp only [wS,simprocAttr,hml',hma3];try exact rfl
     ·intro z hz
      simp only [List.mem_cons,List.not_mem_nil,or_false] at hz
      rcases hz with rfl|rfl|rfl|rfl|rfl|rfl<;>first|rfl|rfl
     ·simp only [List.all_cons,List.all_nil,Bool.and_true,Bool.and_eq_true];try exact ⟨aD (by simp only [inL,inR,ht,Bool.and_self]),aD (by simp only [inL,inR,h2t,Bool.and_self]),rfl,  by simp only [aG,inL,Bool.and_true];exact cH rfl,bQ (aA hmt')⟩
    ·rw [if_neg hc] at h2
     have c2:decide (gV s x<0)=false:=by simp;omega
     have hinv':(out++[x]).length≤i+1+1∧((false=true∧(out++[x])++M.drop (i+1)=R)∨(false=false∧out++[x]=M.take (i+1)∧R=M.take (i+1)++iX s (M.drop (i+1)))):=⟨by rw [List.length_append];simp;omega,.inr ⟨rfl,by rw [htk,h1],by rw [htk,h2];simp⟩⟩
     generalize gV s x=cv at kc c2
     repeat' (first|(refine u'S ?_;simp only [wS,simprocAttr,gx,hA,c1,e3,c2,Bool.not_true,Bool.not_false,↓aM,↓aF])|refine u'Q fun _ _=>?_|refine aO ?_|refine aP (fun hg=>?_) fun hg=>?_|refine u'G ?_|refine b8 (v':=(mC out).length) (es:=[[.sl false (aE x.1),.int .i64 x.2]]) (by':=32) (by kernel_rfl) u'p hvv ho2 (by simp [cJ]) (by simp) (by simp only [List.length_cons,List.length_nil,List.length_append];omega) (u'T ?_))
     refine hK.go ⟨(i+1,false,out++[x]),hlt,hinv'.1,hinv'.2⟩ (Weak.ref ⟨?_,.inr ⟨by first|exact Nat.zero_le _|exact Nat.le_refl _|simp,?_,fun g cs hg=>aD (hG0 g cs hg),?_,?_⟩⟩) (by simp only;omega)
     ·simp only [wS,simprocAttr,↓aM,↓aF];try exact rfl
     ·simp only [wS,simprocAttr,hml,hma];try exact rfl
     ·intro z hz
      simp only [List.mem_cons,List.not_mem_nil,or_false] at hz
      rcases hz with rfl|rfl|rfl|rfl|rfl|rfl<;>first|rfl|rfl
     ·simp only [List.all_cons,List.all_nil,Bool.and_true,Bool.and_eq_true];try exact ⟨aD (by simp only [inL,inR,ht,Bool.and_self]),aD (by simp only [inL,inR,h2t,Bool.and_self]),rfl,  by simp only [aG,inL,Bool.and_true];exact cH rfl,bQ (aA hmt)⟩
  ·have c1:decide (((i:Nat):Int)<((MC.length:Nat):Int))=false:=by simp;omega
   have hdn:M.drop i=[]:=List.drop_eq_nil_of_le (by omega)
   rw [hdn] at hinv
   rcases hinv with ⟨rfl,h1⟩|⟨rfl,h1,h2⟩
   ·rw [List.append_nil] at h1
    subst h1
    repeat' (first|(refine u'S ?_;simp only [wS,simprocAttr,c1,Bool.not_true,Bool.not_false,↓aM,↓aF])|refine u'Q fun _ _=>?_|refine aO ?_|refine aP (fun hg=>?_) fun hg=>?_|fail)
    refine ⟨_,bN [4] (kp [2]) (l:=[(4,.ptr 2 0 0)]) (h:=[.none,.none,.cells 0 [.sl false (mC out)]]) hG0 (fun r hr=>absurd hr (Nat.not_lt_zero r)) ?_ ?_ ?_,bV (v:=.agg [.sl false (mC out)]) rfl ?_ ?_⟩
    ·simp only [wS,simprocAttr,cS,Frz,and_true,true_or]
    ·rfl
    ·simp only [wS,simprocAttr,↓aM,↓aF]
     simp only [ToH,and_true]
     exact ⟨.inl rfl,.inl rfl,.inr ⟨rfl,aD (by simp only [inL,inR,hot,Bool.and_self]),.inr ⟨.inl (by simp),.inr ⟨0,_,_,rfl,rfl,.inr (fB (v:=(mC out).length - 1) u'p (by simp) ho2 hot),trivial⟩⟩⟩,rfl,rfl⟩
    ·simp only [wS,simprocAttr]
    ·exact hwk
   ·have hma2:mC (out++[s])=mC out++[[.sl false (aE s.1),.int .i64 s.2]]:=kN _ _
    have hRo:out++[s]=R:=by rw [h2,h1,iX]
    have hmt2:=cK (out++[s])
    have ho3:=oI (out++[s])
    subst hRo
    rw [hma2] at hmt2 ho3
    repeat' (first|(refine u'S ?_;simp only [wS,simprocAttr,c1,Bool.not_true,Bool.not_false,↓aM,↓aF])|refine u'Q fun _ _=>?_|refine aO ?_|refine aP (fun hg=>?_) fun hg=>?_|refine b8 (v':=(mC out).length) (es:=[[.sl false (aE s.1),.int .i64 s.2]]) (by':=32) (by kernel_rfl) u'p hvv ho2 (by simp [cJ]) (by simp) (by simp only [List.length_cons,List.length_nil,List.length_append];omega) (u'T ?_))
    refine ⟨_,bN [4] (kp [2]) (l:=[(4,.ptr 2 0 0)]) (h:=[.none,.none,.cells 0 [.sl false (mC out++[[.sl false (aE s.1),.int .i64 s.2]])]]) hG0 (fun r hr=>absurd hr (Nat.not_lt_zero r)) ?_ ?_ ?_,bV (v:=.agg [.sl false (mC out++[[.sl false (aE s.1),.int .i64 s.2]])]) rfl ?_ ?_⟩
    ·simp only [wS,simprocAttr,cS,Frz,and_true,true_or]
    ·rfl
    ·simp only [wS,simprocAttr,↓aM,↓aF]
     simp only [ToH,and_true]
     exact ⟨.inl rfl,.inl rfl,.inr ⟨rfl,aD (by simp only [inL,inR,hmt2,Bool.and_self]),.inr ⟨.inl (by simp),.inr ⟨0,_,_,rfl,rfl,.inr (fB (v:=(mC out).length) u'p (by simp) ho3 hmt2),trivial⟩⟩⟩,rfl,rfl⟩
    ·simp only [wS,simprocAttr]
    ·rw [← hma2];exact hwk
def siI (x:List Int × Nat):Si:=(x.1,(x.2:Int))
theorem SD (l:List (List Int × Nat)):SE l=mC (l.map siI):=by simp only [SE,mC,List.map_map];rfl
def mB (f:Nat→Si):Nat→List Si
 |0=>[]
 |i+1=>if dE (iX (f i) (mB f i))=true then iX (f i) (mB f i) else mB f i
theorem GW (f:Nat→Si):∀ i,(mB f i).length≤i∧dE (mB f i)=true∧∀ s∈mB f i,∃ j,j<i∧s=f j
 |0=>⟨Nat.le_refl _,rfl,fun s h=>by cases h⟩
 |i+1=>by
  obtain ⟨h1,h2,h3⟩:=GW f i
  rw [mB]
  split
  ·rename_i h
   refine ⟨by rw [uP];omega,h,fun s hs=>?_⟩
   rcases uO _ _ s hs with rfl|hs
   ·exact ⟨i,by omega,rfl⟩
   ·obtain ⟨j,hj,e⟩:=h3 s hs
    exact ⟨j,by omega,e⟩
  ·refine ⟨by omega,h2,fun s hs=>?_⟩
   obtain ⟨j,hj,e⟩:=h3 s hs
   exact ⟨j,by omega,e⟩
set_option maxHeartbeats 8000000 in
theorem DD (c:T) (hc:T.size c≤16000000000) (O:List OpT) (hO:∀ o∈O,OpB o) (hOl:O.length≤1000) (l:List Int) (hl:∀ x∈l,cI x):∃ M:List Si,Pure Tryz.prog G0 11 [.agg (T.enc c),.sl false (O.map opC),b9 l] (mV M)∧M.length≤5∧dE M=true∧∀ s∈M,∃ x∈dJ c O,s=siI x:=by
 have ks:=CT c (by omega) false O hO (by omega)
 have hOt:=eI O
 have hmem:=n7 c O
 have hslen:=FF c O
 rw [SD] at ks
 have htr:=T.enc_tree c
 have hLt:inE aC (l.map fun n=>[AV.int .i64 n])=true:=aW l
 have hLl:(l.map fun n=>[AV.int .i64 n]).length=l.length:=List.length_map _
 have hLg:∀ (i:Nat) (x:Int),l[i]? =some x→(l.map fun n=>[AV.int .i64 n])[i]? =some [.int .i64 x]:=fun i x h=>by rw [List.getElem?_map,h];rfl
 obtain ⟨S,hS⟩:∃ S,S=(dJ c O).map siI:=⟨_,rfl⟩
 have hSl:S.length≤16000000000*24:=by rw [hS,List.length_map];omega
 have hSm:∀ s∈S,∃ x∈dJ c O,s=siI x:=fun s h=>by
  rw [hS] at h
  obtain ⟨x,h1,rfl⟩:=List.mem_map.1 h
  exact ⟨x,h1,rfl⟩
 have hSp:∀ s∈S,s.1.length≤16000000000:=fun s h=>by
  obtain ⟨x,h1,rfl⟩:=hSm s h
  have:=hmem x h1
  show x.1.length≤_
  omega
 rw [← hS] at ks
 -- what is chosen
 have hf:∀ i:Nat,∃ s:Si,∃ k:Nat,i<l.length→S≠[]→∃ x,l[i]? =some x∧k<S.length∧S[k]? =some s∧Pure Tryz.prog G0 19 [.int .i64 x,.int .i64 (S.length:Nat)] (.int .i64 (k:Nat)):=fun i=>by
  by_cases hi:i<l.length
  ·by_cases hs:S=[]
   ·exact ⟨([],0),0,fun _ h=>absurd hs h⟩
   ·have hp:0<S.length:=List.length_pos_iff.2 hs
    obtain ⟨k,hk,hka⟩:=fO l[i] (hl _ (List.getElem_mem hi)) S.length hp
    exact ⟨S[k],k,fun _ _=>⟨l[i],List.getElem?_eq_getElem hi,hk,List.getElem?_eq_getElem hk,hka⟩⟩
  ·exact ⟨([],0),0,fun h=>absurd h hi⟩
 obtain ⟨f,hf⟩:∃ f:Nat→Si,∀ i,∃ k:Nat,i<l.length→S≠[]→∃ x,l[i]? =some x∧k<S.length∧S[k]? =some (f i)∧Pure Tryz.prog G0 19 [.int .i64 x,.int .i64 (S.length:Nat)] (.int .i64 (k:Nat)):=⟨fun i=>(hf i).choose,fun i=>(hf i).choose_spec⟩
 obtain ⟨n,hn,hnS,hn5,hne⟩:∃ n:Nat,n≤l.length∧(0<n→S≠[])∧n≤5∧(n=l.length∨n=5∨S=[]):=by
  by_cases hs:S=[]
  ·exact ⟨0,by omega,fun h=>absurd h (by omega),by omega,.inr (.inr hs)⟩
  ·by_cases h5:l.length≤5
   ·exact ⟨l.length,by omega,fun _=>hs,h5,.inl rfl⟩
   ·exact ⟨5,by omega,fun _=>hs,by omega,.inr (.inl rfl)⟩
 have hmk:=GW f
 have hff:∀ i,i<n→f i∈S:=fun i hi=>by
  obtain ⟨k,hk⟩:=hf i
  obtain ⟨x,_,_,h,_⟩:=hk (by omega) (hnS (by omega))
  exact List.mem_of_getElem? h
 refine ⟨mB f n,?_,by have:=(hmk n).1;omega,(hmk n).2.1,fun s hs=>by
  obtain ⟨j,hj,rfl⟩:=(hmk n).2.2 s hs
  exact hSm _ (hff j hj)⟩
 have hmp:∀ i,i≤n→∀ s∈mB f i,s.1.length≤16000000000:=fun i hi s hs=>by
  obtain ⟨j,hj,rfl⟩:=(hmk i).2.2 s hs
  exact hSp _ (hff j (by omega))
 have hstep:∀ i,mB f (i+1)=if dE (iX (f i) (mB f i))=true then iX (f i) (mB f i) else mB f i:=fun i=>rfl
 have hmut0:mB f 0=[]:=rfl
 have hwk:=ON (mB f n)
 have htV:=sF (mB f n)
 have hSt:=cK S
 have hSn:=gQ S
 have hSg:=fun (i:Nat) (s:Si)=>jG (M:=S) (i:=i) (s:=s)
 obtain ⟨g,hg⟩:∃ g,g=mB f:=⟨_,rfl⟩
 rw [← hg] at hmk hmp hstep hmut0 hwk htV ⊢
 simp only [b9]
 simp only [mV] at hwk htV ⊢
 generalize (l.map fun n=>[AV.int .i64 n])=EL at hLt hLl hLg ⊢
 generalize mC S=SS at ks hSt hSn hSg
 generalize O.map opC=OL at ks hOt ⊢
 obtain ⟨ca,cb,cc,cd,hce⟩:=aI c
 rw [hce] at ks htr ⊢
 refine aU hG0 Tryz.func11 rfl (by kernel_rfl) (by simp [Tryz.ntmps11]) (by simp only [inL,inR,hOt,hLt,Bool.true_and,Bool.and_true] at htr ⊢;exact htr) (by exact htV) ?_
 simp only [Tryz.ntmps11,aH,Nat.reduceAdd]
 repeat' (first|(refine u'S ?_;simp only [wS,simprocAttr])|refine u'Q fun _ _=>?_|refine aO ?_|refine aP (fun hg=>?_) fun hg=>?_|refine u'G ?_|fail)
 refine aJ (α:={i:Nat // i≤n}) (fun i=>[(2,.sl false EL),(6,.ptr 1 0 0),(7,.sl false SS),(8,.ptr 2 0 0),(9,.int .i64 (i.1:Nat))]) (fun i=>[.none,.cells 0 [.sl true []],.cells 0 [.sl false (mC (g i.1))]]) (fun i=>n - i.1) ⟨0,Nat.zero_le _⟩ (bN [] (kp [1,2]) hG0 (fun r hr=>absurd hr (Nat.not_lt_zero r)) ?_ ?_ ?_) ?_
 ·simp only [wS,simprocAttr,cS,Frz,and_true,true_or]
 ·simp only [List.all_cons,List.all_nil,Bool.and_true,Bool.and_eq_true,inR,aA hLt,aA hSt,true_and];exact ⟨rfl,rfl⟩
 ·simp only [wS,simprocAttr,hmut0,mC,List.map_nil]
  simp only [ToH,and_true]
  exact ⟨.inl rfl,kr rfl rfl (by simp),.inr ⟨rfl,rfl,.inr ⟨.inl (by simp),.inr ⟨0,_,_,rfl,rfl,.inr (.full rfl),trivial⟩⟩⟩⟩
 ·rintro ⟨i,hi⟩ K hK
  try simp only at hi
  by_cases hlt:i<n
  ·obtain ⟨k,hk⟩:=hf i
   have hSne:=hnS (by omega)
   obtain ⟨x,hx,hkl,hks,kar⟩:=hk (by omega) hSne
   have c1:decide (((i:Nat):Int)<((EL.length:Nat):Int))=true:=by simp;omega
   have c2:decide (((i:Nat):Int)<5)=true:=by simp;omega
   have hpos:0<S.length:=List.length_pos_iff.2 hSne
   have c3:decide (((SS.length:Nat):Int) > 0)=true:=by simp;omega
   have e3:=aL (k:=i) hlt (by omega)
   have hgl:=(hmk i).1
   have gx:=hLg i x hx
   have hA:i<EL.length:=by omega
   have gs:=hSg k (f i) hks
   have hB:k<SS.length:=by omega
   have kin:=L2 (g i) (f i) (by omega) (fun s hs=>by have:=hmp i (by omega) s hs;omega) (by have:=hSp _ (hff i hlt);omega)
   have kap:=CZ (iX (f i) (g i)) (by rw [uP];omega) fun s hs=>by
    rcases uO _ _ s hs with rfl|hs
    ·have:=hSp _ (hff i hlt);omega
    ·have:=hmp i (by omega) s hs;omega
   have hst:=hstep i
   have hgt:=cK (g (i+1))
   simp only [mV] at kin kap
   rw [← hSn] at kar
   generalize aE (f i).1=ip at gs kin
   cases hap:dE (iX (f i) (g i)) with
   |true=>
    rw [hap] at kap
    rw [hap,if_pos rfl] at hst
    repeat' (first|(refine u'S ?_;simp only [wS,simprocAttr,c1,c2,c3,e3,gx,hA,gs,hB])|refine u'Q fun _ _=>?_|refine aO ?_|refine aP (fun hg=>?_) fun hg=>?_|refine u'G ?_|fail)
    refine hK.go ⟨i+1,hlt⟩ (Weak.ref ⟨?_,.inr ⟨by first|exact Nat.zero_le _|exact Nat.le_refl _|simp,?_,fun g cs hg=>aD (hG0 g cs hg),?_,?_⟩⟩) (by simp only;omega)
    ·exact u'p
    ·simp only [wS,simprocAttr,hst];try exact rfl
    ·intro z hz
     simp only [List.mem_cons,List.not_mem_nil,or_false] at hz
     rcases hz with rfl|rfl|rfl|rfl|rfl<;>first|rfl|(simp only [inR];first|exact aA hLt|exact aA hSt)
    ·simp only [List.all_cons,List.all_nil,Bool.and_true,Bool.and_eq_true];try exact ⟨rfl,rfl,aD (by simp only [inL,inR,hgt,Bool.and_self])⟩
   |false=>
    rw [hap] at kap
    rw [hap,if_neg (by simp)] at hst
    repeat' (first|(refine u'S ?_;simp only [wS,simprocAttr,c1,c2,c3,e3,gx,hA,gs,hB])|refine u'Q fun _ _=>?_|refine aO ?_|refine aP (fun hg=>?_) fun hg=>?_|refine u'G ?_|fail)
    refine hK.go ⟨i+1,hlt⟩ (Weak.ref ⟨?_,.inr ⟨by first|exact Nat.zero_le _|exact Nat.le_refl _|simp,?_,fun g cs hg=>aD (hG0 g cs hg),?_,?_⟩⟩) (by simp only;omega)
    ·exact u'p
    ·simp only [wS,simprocAttr,hst];try exact rfl
    ·intro z hz
     simp only [List.mem_cons,List.not_mem_nil,or_false] at hz
     rcases hz with rfl|rfl|rfl|rfl|rfl<;>first|rfl|(simp only [inR];first|exact aA hLt|exact aA hSt)
    ·simp only [List.all_cons,List.all_nil,Bool.and_true,Bool.and_eq_true];try exact ⟨rfl,rfl,aD (by simp only [inL,inR,hgt,Bool.and_self])⟩
  ·obtain rfl:i=n:=by omega
   have hgt:=cK (g i)
   by_cases h1:i<l.length
   ·have c1:decide (((i:Nat):Int)<((EL.length:Nat):Int))=true:=by simp;omega
    by_cases h2:i<5
    ·have c2:decide (((i:Nat):Int)<5)=true:=by simp;omega
     have hSe:S=[]:=by rcases hne with h|h|h<;>first|omega|exact h
     have c3:decide (((SS.length:Nat):Int) > 0)=false:=by rw [hSn,hSe];rfl
     repeat' (first|(refine u'S ?_;simp only [wS,simprocAttr,c1,c2,c3])|refine u'Q fun _ _=>?_|refine aO ?_|refine aP (fun hg=>?_) fun hg=>?_|fail)
     exact bV (v:=.agg [.sl false (mC (g i))]) rfl u'p hwk
    ·have c2:decide (((i:Nat):Int)<5)=false:=by simp;omega
     have c3:True:=trivial
     repeat' (first|(refine u'S ?_;simp only [wS,simprocAttr,c1,c2,c3])|refine u'Q fun _ _=>?_|refine aO ?_|refine aP (fun hg=>?_) fun hg=>?_|fail)
     exact bV (v:=.agg [.sl false (mC (g i))]) rfl u'p hwk
   ·have c1:decide (((i:Nat):Int)<((EL.length:Nat):Int))=false:=by simp;omega
    have c2:True:=trivial
    have c3:True:=trivial
    repeat' (first|(refine u'S ?_;simp only [wS,simprocAttr,c1,c2,c3])|refine u'Q fun _ _=>?_|refine aO ?_|refine aP (fun hg=>?_) fun hg=>?_|fail)
    exact bV (v:=.agg [.sl false (mC (g i))]) rfl u'p hwk
def rW (c:T) (O:List OpT):Nat→Nat
 |0=>0
 |n+1=>if (dJ c (O.take (n+1))).length≤14 then n+1 else rW c O n
theorem FD (c:T):(dJ c []).length=0:=by
 have:=kC c [] (T.paths c)
 unfold dJ
 simp at this ⊢
 exact this
theorem H7 (c:T) (O:List OpT):∀ n,rW c O n≤n∧(dJ c (O.take (rW c O n))).length≤14
 |0=>⟨Nat.le_refl _,by rw [rW,List.take_zero,FD];omega⟩
 |n+1=>by
  obtain ⟨h1,h2⟩:=H7 c O n
  rw [rW]
  split
  ·rename_i h;exact ⟨Nat.le_refl _,h⟩
  ·exact ⟨by omega,h2⟩
set_option maxHeartbeats 8000000 in
theorem OP (l m:List Int) (hl:∀ x∈l,cI x) (hm:∀ x∈m,cI x):∃ (c:T) (O:List OpT),Pure Tryz.prog G0 10 [b9 l,b9 m] (.tup [.agg (T.enc c),.sl false (O.map opC)])∧T.size c≤16000000000∧O.length≤7∧(∀ o∈O,OpB o)∧(dJ c O).length≤14:=by
 obtain ⟨c,kc,hc⟩:=MD (Nat.le_refl _) (N4 l hl)
 obtain ⟨O,kO,hO7,hOB⟩:=RP c hc m hm
 have hlab:=H7 c O O.length
 have hstep:∀ n,rW c O (n+1)=if (dJ c (O.take (n+1))).length≤14 then n+1 else rW c O n:=fun n=>rfl
 have hzero:rW c O 0=0:=rfl
 refine ⟨c,O.take (rW c O O.length),?_,hc,by rw [List.length_take];omega,fun o ho=>hOB o (List.mem_of_mem_take ho),hlab.2⟩
 have ks:=fun n=>CT c (by omega) false (O.take n) (fun o ho=>hOB o (List.mem_of_mem_take ho)) (by rw [List.length_take];omega)
 have hsl:=fun n=>M4 (dJ c (O.take n))
 have htr:=T.enc_tree c
 have hwc:=T.wk_enc c
 have hOt:=fun n=>eI (O.take n)
 have hOl:∀ n,n≤O.length→((O.take n).map opC).length=n:=fun n h=>by rw [List.length_map,List.length_take];omega
 have hOtk:∀ n,((O.take (n+1)).map opC).take n=(O.take n).map opC:=fun n=>by rw [← List.map_take,List.take_take,Nat.min_eq_left (by omega)]
 have hO10:∀ n,((O.take n).map opC).all (fun e=>decide (e.length=10))=true:=fun n=>List.all_eq_true.2 fun e he=>by
  obtain ⟨⟨nm,f,p,b⟩,_,rfl⟩:=List.mem_map.1 he
  simpa using GT nm f p b
 have hOw:AM.wk (.sl false ((O.take (rW c O O.length)).map opC))=.sl false ((O.take (rW c O O.length)).map opC):=by
  rw [AM.wk,dI]
  congr 1
  rw [List.map_map]
  exact List.map_congr_left fun o _=>KH _ _ _ _
 have hfull:O.map opC=(O.take O.length).map opC:=by rw [List.take_length]
 rw [hfull] at kO
 obtain ⟨F,hF⟩:∃ F:Nat→List (List AV),F=fun n=>(O.take n).map opC:=⟨_,rfl⟩
 have hFn:∀ n,(O.take n).map opC=F n:=fun n=>by rw [hF]
 simp only [hFn] at kO ks hOt hOl hOtk hO10 hOw ⊢
 obtain ⟨G,hG⟩:∃ G:Nat→List (List AV),G=fun n=>SE (dJ c (O.take n)):=⟨_,rfl⟩
 have hGn:∀ n,SE (dJ c (O.take n))=G n:=fun n=>by rw [hG]
 simp only [hGn] at ks hsl
 obtain ⟨Q,hQ⟩:∃ Q:Nat→Nat,Q=rW c O:=⟨_,rfl⟩
 rw [← hQ] at hstep hzero hOw hlab ⊢
 simp only [b9] at kc kO ⊢
 have hlt:inE aC (l.map fun n=>[AV.int .i64 n])=true:=aW l
 have hmt:inE aC (m.map fun n=>[AV.int .i64 n])=true:=aW m
 generalize (l.map fun n=>[AV.int .i64 n])=EL at kc hlt ⊢
 generalize (m.map fun n=>[AV.int .i64 n])=EM at kO hmt ⊢
 obtain ⟨ca,cb,cc,cd,hce⟩:=aI c
 rw [hce] at kc kO ks htr hwc ⊢
 have hres:inR aC (.tup [.agg [.int .i64 ca,.int .i64 cb,.int .i64 cc,.sl false cd],.sl false (F (Q O.length))])=true:=by
  simp only [inR,inL,hOt,Bool.and_true,Bool.true_and] at htr ⊢
  exact htr
 refine aU hG0 Tryz.func10 rfl (by kernel_rfl) (by simp [Tryz.ntmps10]) (by simp only [inL,inR,hlt,hmt,Bool.and_self]) (by exact hres) ?_
 simp only [Tryz.ntmps10,aH,Nat.reduceAdd]
 repeat' (first|(refine u'S ?_;simp only [wS,simprocAttr])|refine u'Q fun _ _=>?_|refine aO ?_|refine aP (fun hg=>?_) fun hg=>?_|refine u'G ?_|fail)
 refine aJ (α:={n:Nat // n≤O.length∧Q n=Q O.length}) (fun n=>[(4,.ptr 0 0 0),(6,.ptr 1 0 0),(7,.sl false (F n.1))]) (fun n=>[.cells 0 [.int .i64 0,.int .i64 0,.int .i64 0,.sl true []],.cells 0 [.int .i64 ca,.int .i64 cb,.int .i64 cc,.sl false cd]]) (fun n=>n.1) ⟨O.length,Nat.le_refl _,rfl⟩ (Weak.ref ⟨?_,.inl ?_⟩) ?_
 ·exact u'p
 ·exact u'p
 ·rintro ⟨n,hn,hQn⟩ K hK
  try simp only at hn hQn
  have hFl:=hOl n hn
  cases n with
  |zero=>
   have c1:decide ((((F 0).length:Nat):Int) > 0)=false:=by rw [hFl];rfl
   have c2:True:=trivial
   rw [hzero] at hQn
   rw [← hQn] at hOw
   repeat' (first|(refine u'S ?_;simp only [wS,simprocAttr,c1])|refine u'Q fun _ _=>?_|refine aO ?_|refine aP (fun hg=>?_) fun hg=>?_|fail)
   refine aX (v:=.agg [.int .i64 ca,.int .i64 cb,.int .i64 cc,.sl false cd]) rfl ?_ ?_
   ·simp only [wS,simprocAttr]
   ·simp only [wS,simprocAttr]
    rw [← hQn,AM.wk,wkL,AM.wk,hwc,wkL,hOw,wkL]
  |succ n=>
   have c1:decide ((((F (n+1)).length:Nat):Int) > 0)=true:=by rw [hFl];simp
   have kss:=ks (n+1)
   have hsn:=hsl (n+1)
   have hst:=hstep n
   rw [← hsn] at hst
   by_cases h14:(G (n+1)).length≤14
   ·have c2:decide ((((G (n+1)).length:Nat):Int) > 14)=false:=by simp;omega
    rw [if_pos h14] at hst
    rw [hst] at hQn
    rw [← hQn] at hOw
    repeat' (first|(refine u'S ?_;simp only [wS,simprocAttr,c1,c2])|refine u'Q fun _ _=>?_|refine aO ?_|refine aP (fun hg=>?_) fun hg=>?_|refine u'G ?_|fail)
    refine aX (v:=.agg [.int .i64 ca,.int .i64 cb,.int .i64 cc,.sl false cd]) rfl ?_ ?_
    ·simp only [wS,simprocAttr]
    ·simp only [wS,simprocAttr]
     rw [← hQn,AM.wk,wkL,AM.wk,hwc,wkL,hOw,wkL]
   ·have c2:decide ((((G (n+1)).length:Nat):Int) > 14)=true:=by simp;omega
    rw [if_neg h14] at hst
    have em:IntKind.i64.wrap ((((F (n+1)).length:Nat):Int) - 1)=((n:Nat):Int):=by rw [hFl,cB (by omega) (by omega)];omega
    have htk:=hOtk n
    have h10:=hO10 (n+1)
    have hle:n≤(F (n+1)).length:=by omega
    have hFt:=hOt n
    repeat' (first|(refine u'S ?_;simp only [wS,simprocAttr,c1,c2,em,htk,h10,hle,if_true,decide_true,Bool.true_and,Bool.and_true,List.drop_zero,Nat.sub_zero])|refine u'Q fun _ _=>?_|refine aO ?_|refine aP (fun hg=>?_) fun hg=>?_|refine u'G ?_|fail)
    refine hK.go ⟨n,by omega,by rw [← hst];exact hQn⟩ (Weak.ref ⟨?_,.inr ⟨by first|exact Nat.zero_le _|exact Nat.le_refl _|simp,?_,fun g cs hg=>aD (hG0 g cs hg),?_,?_⟩⟩) (by simp only;omega)
    ·exact u'p
    ·exact u'p
    ·intro z hz
     simp only [List.mem_cons,List.not_mem_nil,or_false] at hz
     rcases hz with rfl|rfl|rfl<;>first|rfl|(simp only [inR];exact aA hFt)
    ·simp only [List.all_cons,List.all_nil,Bool.and_true,Bool.and_eq_true];try exact ⟨rfl,aD htr⟩
end Go.Proofs.YtggflhbigolakaaGreatDoor
