import Derived.Test.YtggflhbigolakaaGreatDoorSA
set_option linter.unusedVariables false
set_option linter.unusedSimpArgs false
namespace Go.Proofs.YtggflhbigolakaaGreatDoor
open Go.AM
attribute [local irreducible] AWp aY bC bI bU bW aN aS bL
set_option maxRecDepth 100000
abbrev MP:=List (Int × T)
def jK:List Int→Int→Nat→Option Nat
 | [],_,_=>none
 |x::xs,k,i=>if k=x then some i else jK xs k (i+1)
def cI' (l:List Int):List AV:=l.map fun n=>.int .i64 n
theorem j5:∀ (ks:List Int) (k:Int) (i:Nat),lI (.int .i64) (.int .i64 k) (cI' ks) i=some (jK ks k i)
 | [],k,i=>rfl
 |x::xs,k,i=>by
  have e:cI' (x::xs)=.int .i64 x::cI' xs:=rfl
  have ih:=j5 xs k (i+1)
  rw [e,lI]
  by_cases h:k=x
  ·have:j3 (.int .i64) (.int .i64 k) (.int .i64 x)=some true:=by simp [j3,h]
   simp only [this,jK,if_pos h]
  ·have:j3 (.int .i64) (.int .i64 k) (.int .i64 x)=some false:=by simp [j3,h]
   simp only [this,jK,if_neg h,ih]
def pG (mp:MP):List Int:=mp.map (·.1)
def sQ (mp:MP):List AV:=mp.map fun x=>.agg (T.enc x.2)
def cE (mp:MP):ARow:=.map (cI' (pG mp)) (sQ mp)
def c7:MP→Int→Option T
 | [],_=>none
 |x::mp,n=>if n=x.1 then some x.2 else c7 mp n
theorem mX:∀ (mp:MP) (n:Int) (i j:Nat),jK (pG mp) n i=some j→∃ x,i≤j∧mp[j - i]? =some (n,x)∧c7 mp n=some x
 | [],n,i,j,h=>by cases h
 |y::mp,n,i,j,h=>by
  simp only [pG,List.map_cons,jK] at h
  split at h
  ·rename_i he
   injection h with h
   subst h
   obtain ⟨a,b⟩:=y
   simp only at he
   exact ⟨b,Nat.le_refl _,by simp [he],by rw [c7,if_pos he]⟩
  ·rename_i he
   obtain ⟨x,h1,h2,h3⟩:=mX mp n (i+1) j h
   exact ⟨x,by omega,by rw [show j - i=(j - (i+1))+1 by omega,List.getElem?_cons_succ,h2],by rw [c7,if_neg he,h3]⟩
theorem mY:∀ (mp:MP) (n:Int) (i:Nat),jK (pG mp) n i=none→c7 mp n=none
 | [],n,i,h=>rfl
 |y::mp,n,i,h=>by
  simp only [pG,List.map_cons,jK] at h
  split at h
  ·cases h
  ·rename_i he
   rw [c7,if_neg he];exact mY mp n (i+1) h
def gW (B:Nat) (mp:MP):Prop:=∀ x∈mp,T.size x.2≤B
theorem sP:∀ mp:MP,inL aC (sQ mp)=true
 | []=>rfl
 |x::mp=>by have:=sP mp;simp only [sQ,List.map_cons,inL,inR,T.enc_tree,Bool.true_and] at this ⊢;exact this
theorem HJ (p:Nat→Bool):∀ l:List Int,inL p (cI' l)=true
 | []=>rfl
 |x::l=>by have:=HJ p l;simp only [cI',List.map_cons,inL,inR,Bool.true_and] at this ⊢;exact this
theorem dA {p:Nat→Bool} (mp:MP):aG p (cE mp)=true:=by
 simp only [cE,aG,Bool.and_eq_true]
 exact ⟨HJ _ _,aD (sP mp)⟩
theorem DF (mp:MP) (k:Int) (t:T):ARow.map (cI' (pG mp)++[.int .i64 k]) (sQ mp++[.agg (T.enc t)])=cE (mp++[(k,t)]):=by simp [cE,pG,sQ,cI']
theorem w7 {mp:MP} {j:Nat} {n:Int} {x:T} (h:mp[j]? =some (n,x)):(sQ mp)[j]? =some (.agg (T.enc x)):=by simp [sQ,h]
namespace T
mutual
def mat : T → T → Bool → MP → Bool × MP
 |mk pk pn pm ps,t,root,mp=>
  if pk=28 then
   if pn<0∨7<pn then (false,mp) else match c7 mp pn with
    |some x=>(cmp x t==0,mp)
    |none=>(true,mp++[(pn,t)])
  else if pk=t.kind∧pm=t.low∧(pn=t.num∨(root=true∧pn= -100))∧ps.length=t.kids.length then mats ps t.kids mp else (false,mp)
def mats:List T→List T→MP→Bool × MP
 |p::ps,e::es,mp=>match mat p e false mp with
  |(true,mp')=>mats ps es mp'
  |(false,mp')=>(false,mp')
 |_,_,mp=>(true,mp)
end
mutual
theorem mat_good {B:Nat}:∀ (p t:T) (root:Bool) (mp:MP),size t≤B→gW B mp→gW B (mat p t root mp).2
 |mk pk pn pm ps,t,root,mp,ht,hm=>by
  have hk:sizes t.kids≤B:=by rw [qE] at ht;omega
  have h:=xZ ps t.kids mp hk hm
  rw [mat]
  split
  ·split
   ·exact hm
   ·split
    ·exact hm
    ·intro x hx
     rcases List.mem_append.1 hx with hx|hx
     ·exact hm x hx
     ·rw [List.mem_singleton.1 hx];exact ht
  ·split
   ·exact h
   ·exact hm
theorem xZ {B:Nat}:∀ (ps es:List T) (mp:MP),sizes es≤B→gW B mp→gW B (mats ps es mp).2
 |p::ps,e::es,mp,hs,hm=>by
  simp only [sizes] at hs
  have h1:=mat_good p e false mp (by omega) hm
  rw [mats]
  split
  ·rename_i mp' h
   rw [h] at h1
   exact xZ ps es mp' (by omega) h1
  ·rename_i mp' h
   rw [h] at h1
   exact h1
 | [],_,mp,_,hm=>by rw [mats];exact hm;simp
 |_::_,[],mp,_,hm=>by rw [mats];exact hm;simp
end
theorem mats_drop {ps es:List T} {i:Nat} {p e:T} (hp:ps[i]? =some p) (he:es[i]? =some e) (mp:MP):mats (ps.drop i) (es.drop i) mp=match mat p e false mp with
  |(true,mp')=>mats (ps.drop (i+1)) (es.drop (i+1)) mp'
  |(false,mp')=>(false,mp'):=by
 obtain ⟨h1,h2⟩:=List.getElem?_eq_some_iff.1 hp
 obtain ⟨h3,h4⟩:=List.getElem?_eq_some_iff.1 he
 rw [List.drop_eq_getElem_cons h1,List.drop_eq_getElem_cons h3,h2,h4,mats]
end T
def QV (N:Nat):Prop:=∀ p:T,T.size p≤N→∀ t:T,T.size t≤1000000000000→∀ (root:Bool) (mp:MP),gW 1000000000000 mp→∀ rows:Nat→ARow,rows 3=cE mp→
 dH Tryz.prog G0 60 [.omp 3,.agg (T.enc p),.agg (T.enc t),.bool root] rows [3] ⟨.bool (T.mat p t root mp).1,[(3,cE (T.mat p t root mp).2)]⟩
theorem NB {N:Nat} (h:QV N) (p:T) (hp:T.size p≤N) (t:T) (ht:T.size t≤1000000000000) (mp:MP) (hm:gW 1000000000000 mp) (rows:Nat→ARow) (h3:rows 3=cE mp) (h4:rows 4=.cells 0 [.omp 3]):
  dH Tryz.prog G0 97 [.agg (T.enc p),.agg (T.enc t),.ptr 4 0 0] rows [3,4] ⟨.bool (T.mat p t false mp).1,[(3,cE (T.mat p t false mp).2)]⟩:=by
 have key:=fun rows h3=>h p hp t ht false mp hm rows h3
 have h1t:=T.enc_tree p
 have h2t:=T.enc_tree t
 generalize T.mat p t false mp=res at key
 obtain ⟨xa,xb,xc,xd,hxe⟩:=aI p
 obtain ⟨ya,yb,yc,yd,hye⟩:=aI t
 rw [hxe] at key h1t ⊢
 rw [hye] at key h2t ⊢
 refine cD [.dead,.dead,.dead,cE mp,.cells 0 [.omp 3]] hG0 Tryz.func97 rfl (by kernel_rfl) (by simp [Tryz.ntmps97]) ?_ ?_ ?_ ?_ ?_ ?_ ?_
 ·intro r hr
  simp only [List.mem_cons,List.not_mem_nil,or_false] at hr
  rcases hr with rfl|rfl
  ·exact h3.symm
  ·exact h4.symm
 ·intro r hr
  match r,hr with
  |0,_=>simp
  |1,_=>simp
  |2,_=>simp
  |3,hr=>exact absurd (by simp) hr
  |4,hr=>exact absurd (by simp) hr
  |r+5,_=>simp
 ·simp only [inL,inR,List.length_cons,List.length_nil,Nat.reduceAdd,Nat.reduceLT,decide_true,Bool.true_and,Bool.and_true,Bool.and_eq_true];exact ⟨aA (by simpa only [inL,inR,Bool.true_and,Bool.and_true] using h1t),aA (by simpa only [inL,inR,Bool.true_and,Bool.and_true] using h2t)⟩
 ·intro r hr
  simp only [List.mem_cons,List.not_mem_nil,or_false] at hr
  rcases hr with rfl|rfl
  ·rw [h3];exact dA _
  ·rw [h4];exact rfl
 ·intro r hr h
  simp only [List.mem_cons,List.not_mem_nil,or_false] at hr
  simp only [List.length_cons,List.length_nil] at h
  omega
 ·simp
 simp only [Tryz.ntmps97,aH,Nat.reduceAdd,List.length_cons,List.length_nil]
 repeat' (first|(refine u'S ?_;simp only [wS,simprocAttr])|refine u'Q fun _ _=>?_|refine aV ?_|refine aR (fun hg=>?_) fun hg=>?_|fail)
 refine dW (key _ u'q) ?_
 simp only [wS,simprocAttr]
 repeat' (first|(refine u'S ?_;simp only [wS,simprocAttr])|refine u'Q fun _ _=>?_|refine aV ?_|refine aR (fun hg=>?_) fun hg=>?_|fail)
 refine aB rfl ?_
 simp only [wS,simprocAttr,inR]
 intro r hr
 simp only [List.mem_cons,List.not_mem_nil,or_false] at hr
 rcases hr with rfl|rfl
 ·exact ⟨rfl,dA _⟩
 ·exact ⟨h4.symm,rfl⟩
def uG (ps es:List T) (mp:MP):Bool × MP:=if ps.length=es.length then T.mats ps es mp else (false,mp)
set_option maxHeartbeats 4000000 in
theorem NO {N:Nat} (hMat:QV N) (ps es:List T) (hp:T.sizes ps≤N) (hN:N≤1000000000000) (he:T.sizes es≤1000000000000) (mp:MP) (hm:gW 1000000000000 mp) (rows:Nat→ARow) (h3:rows 3=cE mp) (h4:rows 4=.cells 0 [.omp 3]):
  dH Tryz.prog G0 96 [.sl false (T.encs ps),.sl false (T.encs es),.fn (.func 97) [] [.ptr 4 0 0]] rows [3,4] ⟨.bool (uG ps es mp).1,[(3,cE (uG ps es mp).2)]⟩:=by
 have h1t:=T.encs_tree ps
 have h2t:=T.encs_tree es
 have hla:=T.len_sizes ps
 have hga:=fun (i:Nat) (e:T)=>T.encs_get (es:=ps) (i:=i) (e:=e)
 have hgb:=fun (i:Nat) (e:T)=>T.encs_get (es:=es) (i:=i) (e:=e)
 have hna:=T.encs_len ps
 have hnb:=T.encs_len es
 have heq:ps.length=es.length→uG ps es mp=T.mats ps es mp:=fun h=>by rw [uG,if_pos h]
 have hne:ps.length≠es.length→uG ps es mp=(false,mp):=fun h=>by rw [uG,if_neg h]
 generalize uG ps es mp=res at heq hne
 generalize T.encs ps=A at h1t hga hna ⊢
 generalize T.encs es=B at h2t hgb hnb ⊢
 refine cD [.dead,.dead,.dead,cE mp,.cells 0 [.omp 3]] hG0 Tryz.func96 rfl (by kernel_rfl) (by simp [Tryz.ntmps96]) ?_ ?_ ?_ ?_ ?_ ?_ ?_
 ·intro r hr
  simp only [List.mem_cons,List.not_mem_nil,or_false] at hr
  rcases hr with rfl|rfl
  ·exact h3.symm
  ·exact h4.symm
 ·intro r hr
  match r,hr with
  |0,_=>simp
  |1,_=>simp
  |2,_=>simp
  |3,hr=>exact absurd (by simp) hr
  |4,hr=>exact absurd (by simp) hr
  |r+5,_=>simp
 ·simp only [inL,inR,List.length_cons,List.length_nil,Nat.reduceAdd,Nat.reduceLT,decide_true,Bool.true_and,Bool.and_true,Bool.and_eq_true];exact ⟨aA h1t,aA h2t⟩
 ·intro r hr
  simp only [List.mem_cons,List.not_mem_nil,or_false] at hr
  rcases hr with rfl|rfl
  ·rw [h3];exact dA _
  ·rw [h4];exact rfl
 ·intro r hr h
  simp only [List.mem_cons,List.not_mem_nil,or_false] at hr
  simp only [List.length_cons,List.length_nil] at h
  omega
 ·simp
 simp only [Tryz.ntmps96,aH,Nat.reduceAdd,List.length_cons,List.length_nil]
 have post:∀ s:AS,s.row 3=cE res.2→s.row 4=.cells 0 [.omp 3]→∀ r∈[3,4],s.row r=upd rows [(3,cE res.2)] r∧aG (fun r=>[3,4].contains r) (s.row r)=true:=fun s a b r hr=>by
  simp only [List.mem_cons,List.not_mem_nil,or_false] at hr
  rcases hr with rfl|rfl
  ·rw [a];exact ⟨rfl,dA _⟩
  ·rw [b];exact ⟨h4.symm,rfl⟩
 by_cases hl:ps.length=es.length
 ·have c0:(((A.length:Nat):Int) != ((B.length:Nat):Int))=false:=by simp;omega
  have hres:=(heq hl).symm
  repeat' (first|(refine u'S ?_;simp only [wS,simprocAttr,c0])|refine u'Q fun _ _=>?_|refine aV ?_|refine aR (fun hg=>?_) fun hg=>?_|fail)
  refine aJ (α:={x:Nat × MP // x.1≤ps.length∧gW 1000000000000 x.2∧T.mats (ps.drop x.1) (es.drop x.1) x.2=res}) (fun x=>[(0,.sl false A),(1,.sl false B),(2,.fn (.func 97) [] [.ptr 4 0 0]),(15,.sl false A),(16,.int .i64 (A.length:Nat)),(17,.int .i64 (x.1.1:Nat))]) (fun x=>[.dead,.dead,.dead,cE x.1.2,.cells 0 [.omp 3]]) (fun x=>ps.length - x.1.1) ⟨(0,mp),Nat.zero_le _,hm,hres⟩ (Weak.ref ⟨?_,.inl ?_⟩) ?_
  ·exact u'p
  ·exact u'p
  ·rintro ⟨⟨i,mi⟩,hi,hmi,hri⟩ K hK
   simp only at hi hmi hri
   by_cases hlt:i<ps.length
   ·have c1:decide (((i:Nat):Int)<((A.length:Nat):Int))=true:=by simp;omega
    obtain ⟨x,hx⟩:∃ x,ps[i]? =some x:=⟨_,List.getElem?_eq_getElem hlt⟩
    obtain ⟨y,hy⟩:∃ y,es[i]? =some y:=⟨_,List.getElem?_eq_getElem (by omega)⟩
    have gx:=hga i x hx
    have gy:=hgb i y hy
    have hA:i<A.length:=by omega
    have hB:i<B.length:=by omega
    have e3:=aL (k:=i) hlt (by omega)
    have hd:=T.mats_drop hx hy mi
    have hsy:T.size y≤1000000000000:=by have:=T.size_mem (List.mem_of_getElem? hy);omega
    have hgi:=T.mat_good x y false mi hsy hmi
    have kc:=fun rows h3 h4=>NB hMat x (by have:=T.size_mem (List.mem_of_getElem? hx);omega) y hsy mi hmi rows h3 h4
    obtain ⟨xa,xb,xc,xd,hxe⟩:=aI x
    obtain ⟨ya,yb,yc,yd,hye⟩:=aI y
    rw [hxe] at gx kc
    rw [hye] at gy kc
    generalize T.mat x y false mi=r1 at hd hgi kc
    obtain ⟨ok,mj⟩:=r1
    cases ok with
    |true=>
     repeat' (first|(refine u'S ?_;simp only [wS,simprocAttr,Bool.not_true,Bool.not_false,gx,gy,hA,hB,c1,e3])|refine u'Q fun _ _=>?_|refine aO ?_|refine aP (fun hg=>?_) fun hg=>?_|refine dW (kc _ u'q u'q) (u'T ?_))
     refine hK.go ⟨(i+1,mj),hlt,hgi,by rw [← hri,hd]⟩ (Weak.ref ⟨?_,.inr ⟨by first|exact Nat.zero_le _|exact Nat.le_refl _|simp,?_,fun g cs hg=>aD (hG0 g cs hg),?_,?_⟩⟩) (by simp only;omega)
     ·exact u'p
     ·exact u'p
     ·intro z hz
      simp only [List.mem_cons,List.not_mem_nil,or_false] at hz
      rcases hz with rfl|rfl|rfl|rfl|rfl|rfl<;>first|rfl|(simp only [inR];first|exact aA h1t|exact aA h2t)
     ·simp only [List.all_cons,List.all_nil,Bool.and_true,Bool.and_eq_true];try exact ⟨rfl,rfl,rfl,dA _,rfl⟩
    |false=>
     have hres2:res=(false,mj):=by rw [← hri,hd]
     repeat' (first|(refine u'S ?_;simp only [wS,simprocAttr,Bool.not_true,Bool.not_false,gx,gy,hA,hB,c1,e3])|refine u'Q fun _ _=>?_|refine aO ?_|refine aP (fun hg=>?_) fun hg=>?_|refine dW (kc _ u'q u'q) (u'T ?_))
     refine aB rfl ⟨.inl ?_,?_,post _ ?_ ?_⟩<;>(try rw [hres2])<;>(simp only [wS,simprocAttr,inR];try exact rfl)
   ·have c1:decide (((i:Nat):Int)<((A.length:Nat):Int))=false:=by simp;omega
    have hres2:res=(true,mi):=by
     rw [← hri,show i=ps.length by omega,List.drop_length,T.mats]
     simp
    repeat' (first|(refine u'S ?_;simp only [wS,simprocAttr,c1])|refine u'Q fun _ _=>?_|refine aV ?_|refine aR (fun hg=>?_) fun hg=>?_|fail)
    refine aB rfl ⟨.inl ?_,?_,post _ ?_ ?_⟩<;>(try rw [hres2])<;>(simp only [wS,simprocAttr,inR];try exact rfl)
 ·have c0:(((A.length:Nat):Int) != ((B.length:Nat):Int))=true:=by simp;omega
  have hres2:=hne hl
  repeat' (first|(refine u'S ?_;simp only [wS,simprocAttr,c0])|refine u'Q fun _ _=>?_|refine aV ?_|refine aR (fun hg=>?_) fun hg=>?_|fail)
  refine aB rfl ⟨.inl ?_,?_,post _ ?_ ?_⟩<;>(try rw [hres2])<;>(simp only [wS,simprocAttr,inR];try exact rfl)
theorem Q1 (pk pn pm k n m:Int) (ps es:List T) (root:Bool) (mp:MP):T.mat (.mk pk pn pm ps) (.mk k n m es) root mp=
  if (pk==28)=true then (if decide (pn<0)=true then (false,mp) else if decide (pn > 7)=true then (false,mp) else match c7 mp pn with
   |some x=>(T.cmp x (.mk k n m es)==0,mp)
   |none=>(true,mp++[(pn,.mk k n m es)]))
  else if (pk != k)=true then (false,mp) else if (pm != m)=true then (false,mp) else if (pn != n)=true then (if root=true then (if (!pn== -100)=true then (false,mp) else uG ps es mp) else (false,mp)) else uG ps es mp:=by
 rw [T.mat]
 simp only [T.kind,T.low,T.num,T.kids,uG,beq_iff_eq,decide_eq_true_eq,bne_iff_ne,ne_eq,Bool.not_eq_eq_eq_not,Bool.not_true,beq_eq_false_iff_ne]
 by_cases h28:pk=28
 ·rw [if_pos h28,if_pos h28]
  by_cases h0:pn<0
  ·rw [if_pos (.inl h0),if_pos h0]
  ·by_cases h7:7<pn
   ·rw [if_pos (.inr h7),if_neg h0,if_pos h7]
   ·rw [if_neg (by omega),if_neg h0,if_neg h7]
    all_goals (cases c7 mp pn<;>rfl)
 ·rw [if_neg h28,if_neg h28]
  by_cases hk:pk=k<;>by_cases hm:pm=m<;>by_cases hn:pn=n<;>by_cases h1:pn= -100<;>cases root<;>simp only [hk,hm,hn,h1,not_true_eq_false,not_false_eq_true,if_true,if_false,true_and,false_and,and_false,or_true,true_or,or_false,false_or,reduceCtorEq,Bool.false_eq_true]<;>simp_all
set_option maxHeartbeats 8000000 in
theorem RT:∀ N:Nat,N≤1000000000000→QV N:=by
 intro N
 induction N with
 |zero=>intro _ p hp;have:=T.size_pos p;omega
 |succ N ih=>
  intro hN p hp t ht root mp hm rows h3
  have h1t:=T.enc_tree p
  have h2t:=T.enc_tree t
  obtain ⟨pk,pn,pm,ps⟩:=p
  obtain ⟨xk,hxk⟩:∃ x,x=t:=⟨t,rfl⟩
  obtain ⟨k,n,m,es⟩:=t
  simp only [T.size] at hp
  have k58:=fun rows h3 h4=>NO (ih (by omega)) ps es (by omega) (by omega) (by simp only [T.size] at ht;omega) mp hm rows h3 h4
  have hsn:=DF mp pn (.mk k n m es)
  have kc:=fun x (h:T.size x≤1000000000000)=>sX _ x (.mk k n m es) h (by decide)
  rw [Q1]
  generalize uG ps es mp=rl at k58
  simp only [T.enc] at h1t h2t k58 hsn kc ⊢
  generalize T.encs ps=A at h1t k58 ⊢
  generalize T.encs es=B at h2t k58 hsn kc ⊢
  clear ih hxk
  rcases hf:jK (pG mp) pn 0 with _|j
  ·rw [mY mp pn 0 hf]
   refine cD [.dead,.dead,.dead,cE mp] hG0 Tryz.func60 rfl (by kernel_rfl) (by simp [Tryz.ntmps60]) ?_ ?_ ?_ ?_ ?_ ?_ ?_
   ·intro r hr
    simp only [List.mem_cons,List.not_mem_nil,or_false] at hr
    rcases hr with rfl
    ·exact h3.symm
   ·intro r hr
    match r,hr with
    |0,_=>simp
    |1,_=>simp
    |2,_=>simp
    |3,hr=>exact absurd (by simp) hr
    |r+4,_=>simp
   ·simp only [inL,inR,List.length_cons,List.length_nil,Nat.reduceAdd,Nat.reduceLT,decide_true,Bool.true_and,Bool.and_true,Bool.and_eq_true];exact ⟨aA (by simpa only [inL,inR,Bool.true_and,Bool.and_true] using h1t),aA (by simpa only [inL,inR,Bool.true_and,Bool.and_true] using h2t)⟩
   ·intro r hr
    simp only [List.mem_cons,List.not_mem_nil,or_false] at hr
    rcases hr with rfl
    ·rw [h3];exact dA _
   ·intro r hr h
    simp only [List.mem_cons,List.not_mem_nil,or_false] at hr
    simp only [List.length_cons,List.length_nil] at h
    omega
   ·simp
   simp only [Tryz.ntmps60,aH,Nat.reduceAdd,List.length_cons,List.length_nil]
   have post:∀ (s:AS) (mq:MP),s.row 3=cE mq→∀ r∈[3],s.row r=upd rows [(3,cE mq)] r∧aG (fun r=>[3].contains r) (s.row r)=true:=fun s mq a r hr=>by
    rw [List.mem_singleton.1 hr,a]
    exact ⟨rfl,dA _⟩
   repeat' (first|(refine u'S ?_;simp only [wS,simprocAttr,Bool.not_true,Bool.not_false,cE,j5,hf])|refine u'Q fun _ _=>?_|refine aO ?_|refine aP (fun hg=>?_) fun hg=>?_|refine dW (k58 _ u'p u'p) (u'T ?_))
   all_goals (refine aB rfl ⟨.inl ?_,?_,post _ _ ?_⟩<;>(simp only [wS,simprocAttr,inR,cE, *,if_true,if_false,Bool.false_eq_true];try first|exact rfl|exact hsn))
  ·obtain ⟨x,_,hx,hlk⟩:=mX mp pn 0 j hf
   rw [Nat.sub_zero] at hx
   have hv:=w7 hx
   have kx:=kc x (hm _ (List.mem_of_getElem? hx))
   rw [hlk]
   obtain ⟨ya,yb,yc,yd,hye⟩:=aI x
   rw [hye] at hv kx
   refine cD [.dead,.dead,.dead,cE mp] hG0 Tryz.func60 rfl (by kernel_rfl) (by simp [Tryz.ntmps60]) ?_ ?_ ?_ ?_ ?_ ?_ ?_
   ·intro r hr
    simp only [List.mem_cons,List.not_mem_nil,or_false] at hr
    rcases hr with rfl
    ·exact h3.symm
   ·intro r hr
    match r,hr with
    |0,_=>simp
    |1,_=>simp
    |2,_=>simp
    |3,hr=>exact absurd (by simp) hr
    |r+4,_=>simp
   ·simp only [inL,inR,List.length_cons,List.length_nil,Nat.reduceAdd,Nat.reduceLT,decide_true,Bool.true_and,Bool.and_true,Bool.and_eq_true];exact ⟨aA (by simpa only [inL,inR,Bool.true_and,Bool.and_true] using h1t),aA (by simpa only [inL,inR,Bool.true_and,Bool.and_true] using h2t)⟩
   ·intro r hr
    simp only [List.mem_cons,List.not_mem_nil,or_false] at hr
    rcases hr with rfl
    ·rw [h3];exact dA _
   ·intro r hr h
    simp only [List.mem_cons,List.not_mem_nil,or_false] at hr
    simp only [List.length_cons,List.length_nil] at h
    omega
   ·simp
   simp only [Tryz.ntmps60,aH,Nat.reduceAdd,List.length_cons,List.length_nil]
   have post:∀ (s:AS) (mq:MP),s.row 3=cE mq→∀ r∈[3],s.row r=upd rows [(3,cE mq)] r∧aG (fun r=>[3].contains r) (s.row r)=true:=fun s mq a r hr=>by
    rw [List.mem_singleton.1 hr,a]
    exact ⟨rfl,dA _⟩
   repeat' (first|(refine u'S ?_;simp only [wS,simprocAttr,Bool.not_true,Bool.not_false,cE,j5,hf,hv])|refine u'Q fun _ _=>?_|refine aO ?_|refine aP (fun hg=>?_) fun hg=>?_|refine u'G ?_|refine dW (k58 _ u'p u'p) (u'T ?_))
   all_goals (refine aB rfl ⟨.inl ?_,?_,post _ _ ?_⟩<;>(simp only [wS,simprocAttr,inR,cE, *,if_true,if_false,Bool.false_eq_true];try first|exact rfl|exact hsn))
theorem rM (b:Bool):Pure Tryz.prog G0 76 [.sl b []] (.sl false []):=by
 refine aU hG0 Tryz.func76 rfl (by kernel_rfl) (by simp [Tryz.ntmps76]) (by simp [inL,inR,inE]) (by simp [inR,inE]) ?_
 simp only [Tryz.ntmps76,aH,Nat.reduceAdd]
 repeat' (first|(refine u'S ?_;simp only [wS,simprocAttr,List.isEmpty_nil,Bool.not_true])|refine u'Q fun _ _=>?_|refine aV ?_|refine aR (fun hg=>?_) fun hg=>?_|fail)
 refine ⟨?_,?_⟩<;>repeat' (first|(refine u'S ?_;simp only [wS,simprocAttr])|refine u'Q fun _ _=>?_|refine aV ?_|refine aR (fun hg=>?_) fun hg=>?_|fail)
 ·refine aB rfl ?_
  simp only [wS,simprocAttr]
  rfl
 ·refine mO (sz:=4) (by':=48) (new:=[]) (by kernel_rfl) (by simp) (by simp [cJ]) (by simp) ?_
  simp only [wS,simprocAttr]
  repeat' (first|(refine u'S ?_;simp only [wS,simprocAttr])|refine u'Q fun _ _=>?_|refine aV ?_|refine aR (fun hg=>?_) fun hg=>?_|fail)
  refine aB rfl ?_
  simp only [wS,simprocAttr]
  rfl
theorem ED (es:List (List AV)) (hne:es≠[]) (ht:inE aC es=true) (h4:∀ e∈es,e.length=4) (hl:es.length≤1000000000000):QU Tryz.prog G0 76 [.sl false es] es.length 4 false es.flatten:=by
 have hall:es.all (fun e=>decide (e.length=4))=true:=List.all_eq_true.2 fun e he=>by simpa using h4 e he
 refine rA hG0 Tryz.func76 rfl (by kernel_rfl) (by simp [Tryz.ntmps76]) (by simp only [inL,inR,ht,Bool.and_self]) (cF ht) ?_
 simp only [Tryz.ntmps76,aH,Nat.reduceAdd]
 have hem:es.isEmpty=false:=by simpa using hne
 have hpos:0<es.length:=List.length_pos_iff.2 hne
 repeat' (first|(refine u'S ?_;simp only [wS,simprocAttr,hem,Bool.not_false])|refine u'Q fun _ _=>?_|refine aV ?_|refine aR (fun hg=>?_) fun hg=>?_|fail)
 refine f8 (sz:=4) (by':=48) (mm:=es.length) (new:=es.flatten) (es:=[]) (by kernel_rfl) ?hb (by simp) (lR hall) (by omega) (by simp only [List.length_nil];omega) ?_
 case hb=>simp only [wS,simprocAttr];try exact rfl
 simp only [wS,simprocAttr]
 repeat' (first|(refine u'S ?_;simp only [wS,simprocAttr])|refine u'Q fun _ _=>?_|refine aV ?_|refine aR (fun hg=>?_) fun hg=>?_|fail)
 refine aB rfl ?_
 simp only [wS,simprocAttr]
 exact ⟨0,0,rfl,rfl⟩
theorem u4 {L:List (List AV)} (h:∀ e∈L,e.length=4) {i:Nat} (hi:i<L.length) {x:List AV} (hx:x.length=4):List.take (i*4) L.flatten++x++List.drop (i*4+4) L.flatten=(L.set i x).flatten:=by
 induction L generalizing i with
 |nil=>simp at hi
 |cons a L ih=>
  have ha:a.length=4:=h a (by simp)
  cases i with
  |zero=>simp only [List.set_cons_zero,List.flatten_cons,Nat.zero_mul,List.take_zero,List.nil_append,Nat.zero_add];rw [List.drop_left' ha]
  |succ i=>
   have:=ih (fun e he=>h e (by simp [he])) (by simpa using hi)
   simp only [List.set_cons_succ,List.flatten_cons]
   rw [← this,show (i+1)*4=a.length+i*4 by omega,show a.length+i*4+4=a.length+(i*4+4) by omega,List.take_length_add_append,List.drop_length_add_append]
   simp only [List.append_assoc]
theorem yT {L:List (List AV)} (h:∀ e∈L,e.length=4) {i:Nat} {x:List AV} (hx:L[i]? =some x):List.take (i*4) L.flatten++x++List.drop (i*4+4) L.flatten=L.flatten:=by
 obtain ⟨h1,h2⟩:=List.getElem?_eq_some_iff.1 hx
 rw [u4 h h1 (h x (List.mem_of_getElem? hx)),← h2,List.set_getElem_self]
set_option maxHeartbeats 4000000 in
theorem NX:∀ (N:Nat) (t:T),T.size t≤N→N≤1000000000000→Pure Tryz.prog G0 62 [.agg (T.enc t)] (.agg (T.enc t)):=by
 intro N
 induction N with
 |zero=>intro t h;have:=T.size_pos t;omega
 |succ N ih=>
  intro t ht hN
  have htr:=T.enc_tree t
  have hwk:=T.wk_enc t
  obtain ⟨k,n,m,es⟩:=t
  have ih2:∀ e∈es,Pure Tryz.prog G0 62 [.agg (T.enc e)] (.agg (T.enc e)):=fun e he=>ih e (by have:=T.size_mem he;simp only [T.size] at ht;omega) (by omega)
  have hls:=T.len_sizes es
  simp only [T.size] at ht
  simp only [T.enc] at htr hwk ⊢
  have hgt:=fun (i:Nat) (e:T)=>T.encs_get (es:=es) (i:=i) (e:=e)
  have hln:=T.encs_len es
  have hte:=T.encs_tree es
  have he4:∀ e∈T.encs es,e.length=4:=fun e he=>by
   rw [T.encs_map] at he
   obtain ⟨y,_,rfl⟩:=List.mem_map.1 he
   exact T.enc_len y
  generalize T.encs es=E at hgt hln hte htr hwk he4 ⊢
  refine aU hG0 Tryz.func62 rfl (by kernel_rfl) (by simp [Tryz.ntmps62]) (by simp only [inL,inR,hte,Bool.and_self]) (by simp only [inR];exact htr) ?_
  simp only [Tryz.ntmps62,aH,Nat.reduceAdd]
  refine jD ?_
  by_cases hne:E=[]
  ·subst hne
   repeat' (first|(refine u'S ?_;simp only [wS,simprocAttr])|refine u'Q fun _ _=>?_|refine aV ?_|refine aR (fun hg=>?_) fun hg=>?_|fail)
   refine bH hG0 (rM false) ?_
   simp only [wS,simprocAttr]
   repeat' (first|(refine u'S ?_;simp only [wS,simprocAttr])|refine u'Q fun _ _=>?_|refine aV ?_|refine aR (fun hg=>?_) fun hg=>?_|fail)
   refine aJ (α:=Unit) (fun _=>[(1,.ptr 0 0 0),(2,.ptr 1 0 0),(11,.int .i64 0),(12,.int .i64 0)]) (fun _=>[.cells 0 [.int .i64 k,.int .i64 n,.int .i64 m,.sl false []],.cells 0 [.int .i64 0,.int .i64 0,.int .i64 0,.sl true []]]) (fun _=>0) () (Weak.ref ⟨?_,.inl ?_⟩) ?_
   ·exact u'p
   ·exact u'p
   ·rintro _ K hK
    repeat' (first|(refine u'S ?_;simp only [wS,simprocAttr])|refine u'Q fun _ _=>?_|refine aV ?_|refine aR (fun hg=>?_) fun hg=>?_|fail)
    refine ⟨_,lZ,bV (v:=.agg [.int .i64 k,.int .i64 n,.int .i64 m,.sl false []]) rfl ?_ ?_⟩
    ·simp only [wS,simprocAttr]
    ·rw [AM.wk,hwk]
  ·have hown:=ED E hne hte he4 (by omega)
   repeat' (first|(refine u'S ?_;simp only [wS,simprocAttr])|refine u'Q fun _ _=>?_|refine aV ?_|refine aR (fun hg=>?_) fun hg=>?_|fail)
   refine dW (hown _ 2 u'p) ?_
   simp only [wS,simprocAttr]
   repeat' (first|(refine u'S ?_;simp only [wS,simprocAttr])|refine u'Q fun _ _=>?_|refine aV ?_|refine aR (fun hg=>?_) fun hg=>?_|fail)
   refine aJ (α:={i:Nat // i≤es.length}) (fun i=>[(1,.ptr 0 0 0),(2,.ptr 1 0 0),(10,.osl 2 0 0 E.length 4 false),(11,.int .i64 (E.length:Nat)),(12,.int .i64 (i.1:Nat))]) (fun i=>[.cells 0 [.int .i64 k,.int .i64 n,.int .i64 m,.osl 2 0 0 E.length 4 false],.cells 0 [.int .i64 0,.int .i64 0,.int .i64 0,.sl true []],.cells 0 E.flatten]) (fun i=>es.length - i.1) ⟨0,Nat.zero_le _⟩ (Weak.ref ⟨?_,.inl ?_⟩) ?_
   ·exact u'p
   ·exact u'p
   ·rintro ⟨i,hi⟩ K hK
    by_cases hlt:i<es.length
    ·have c1:decide (((i:Nat):Int)<((E.length:Nat):Int))=true:=by simp;omega
     obtain ⟨e,he⟩:∃ e,es[i]? =some e:=⟨_,List.getElem?_eq_getElem hlt⟩
     have hg:=hgt i e he
     have hce:=ih2 e (List.mem_of_getElem? he)
     have hfl:=B1 he4 hg
     have hfs:=yT he4 hg
     have hfll:E.flatten.length=E.length*4:=cG he4
     have hA:i<E.length:=by omega
     have e3:=aL (k:=i) hlt (by omega)
     have hb1:i*4+4≤E.length*4:=by omega
     obtain ⟨xa,xb,xc,xd,hxe⟩:=aI e
     rw [hxe] at hce hfl hfs
     rw [List.cons_append,List.cons_append,List.cons_append,List.cons_append,List.nil_append] at hfl
     repeat' (first|(refine u'S ?_;simp only [wS,simprocAttr,hfl,hfll,c1,hA,hlt,hb1,e3])|refine u'Q fun _ _=>?_|refine aO ?_|refine aP (fun hg=>?_) fun hg=>?_|refine u'G ?_|fail)
     refine hK.go ⟨i+1,hlt⟩ (Weak.ref ⟨?_,.inr ⟨by first|exact Nat.zero_le _|exact Nat.le_refl _|simp,?_,fun g cs hg=>aD (hG0 g cs hg),?_,?_⟩⟩) (by simp only;omega)
     ·exact u'p
     ·simp only [wS,simprocAttr,hfs];try exact rfl
     ·intro z hz
      simp only [List.mem_cons,List.not_mem_nil,or_false] at hz
      rcases hz with rfl|rfl|rfl|rfl|rfl<;>first|rfl|rfl
     ·simp only [List.all_cons,List.all_nil,Bool.and_true,Bool.and_eq_true];try exact ⟨rfl,rfl,cF (aA hte)⟩
    ·have c1:decide (((i:Nat):Int)<((E.length:Nat):Int))=false:=by simp;omega
     repeat' (first|(refine u'S ?_;simp only [wS,simprocAttr,c1])|refine u'Q fun _ _=>?_|refine aV ?_|refine aR (fun hg=>?_) fun hg=>?_|fail)
     refine ⟨_,dD [2] [(2,.ptr 1 0 0)] [.cells 0 [.int .i64 k,.int .i64 n,.int .i64 m,.osl 2 0 0 E.length 4 false],.cells 0 [.int .i64 k,.int .i64 n,.int .i64 m,.sl false E],.dead] rfl ⟨.inl ?_,trivial⟩ ?_,bV (v:=.agg [.int .i64 k,.int .i64 n,.int .i64 m,.sl false E]) rfl ?_ ?_⟩
     ·simp only [wS,simprocAttr]
     ·refine ⟨.inr ⟨by simp,.inl rfl⟩,.inr ⟨by simp,.inr ⟨0,_,_,rfl,rfl,.inl rfl,.inl rfl,.inl rfl,.inr (.osl (cs:=E.flatten) (by simp) u'q rfl he4 ?_ hte),trivial⟩⟩,.inl ⟨by simp,rfl,by simp⟩,trivial⟩
      rw [List.drop_zero,List.take_of_length_le (by rw [cG he4];exact Nat.le_refl _)]
     ·simp only [wS,simprocAttr]
     ·rw [AM.wk,hwk]
end Go.Proofs.YtggflhbigolakaaGreatDoor
