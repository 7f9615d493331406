import Derived.Test.YtggflhbigolakaaGreatDoorUN
set_option linter.unusedVariables false
set_option linter.unusedSimpArgs false
namespace Go.Proofs.YtggflhbigolakaaGreatDoor
open Go.AM
attribute [local irreducible] AWp aY bC bI bU bW aN aS bL
set_option maxRecDepth 100000
theorem DS (t:T) (p:List Int):∀ (ol:List OpT) (k:Nat),∀ x∈fL t p ol k,∃ (j:Nat) (o:OpT) (u:T),x=(p,k+j)∧ol[j]? =some o∧qV o t=some u
 | [],_,x,h=>by cases h
 |o::ol,k,x,h=>by
  rw [fL] at h
  rcases List.mem_append.1 h with h|h
  ·cases ha:qV o t with
   |none=>rw [ha] at h;cases h
   |some u=>
    rw [ha] at h
    simp only [DU,List.mem_singleton] at h
    exact ⟨0,o,u,h,rfl,ha⟩
  ·obtain ⟨j,o',u,h1,h2,h3⟩:=DS t p ol (k+1) x h
   exact ⟨j+1,o',u,by rw [h1];congr 1;omega,by simpa using h2,h3⟩
theorem tH (t:T) (ol:List OpT):∀ (ps:List (List Int)),∀ x∈dC t ol ps,∃ (n:T) (j:Nat) (o:OpT) (u:T),x.2=j∧T.sub t x.1=some n∧ol[j]? =some o∧qV o n=some u
 | [],x,h=>by cases h
 |p::ps,x,h=>by
  rw [dC] at h
  rcases List.mem_append.1 h with h|h
  ·cases hs:T.sub t p with
   |none=>rw [hs] at h;cases h
   |some n=>
    rw [hs] at h
    obtain ⟨j,o,u,rfl,h2,h3⟩:=DS n p ol 0 x h
    exact ⟨n,j,o,u,by simp,hs,h2,h3⟩
  ·exact tH t ol ps x h
theorem m8 {c:T} {O:List OpT} {s:Si} (h:∃ x∈dJ c O,s=siI x):∃ (n:T) (j:Nat) (o:OpT) (u:T),s.2=j∧T.sub c s.1=some n∧O[j]? =some o∧qV o n=some u∧eU c O s=some u:=by
 obtain ⟨x,hx,rfl⟩:=h
 unfold dJ at hx
 split at hx
 ·cases hx
 ·rename_i hl
  obtain ⟨n,j,o,u,h1,h2,h3,h4⟩:=tH c O _ x hx
  refine ⟨n,j,o,u,by rw [← h1];rfl,h2,h3,h4,?_⟩
  show eU c O (x.1,(x.2:Int))=some u
  have ha:atO O (x.2:Int)=some o:=by rw [atO,if_pos (by omega),h1];simpa using h3
  rw [eU]
  simp only [h2,ha,if_pos (show O.length≤24 by omega)]
  exact h4
def apI (a b:List Int):Prop:=ltI a b=true∨ltI b a=true
theorem apI.symm {a b:List Int} (h:apI a b):apI b a:=Or.symm h
theorem EV {i j:Int} {a b:List Int} (h:apI (i::a) (j::b)):i≠j∨(i=j∧apI a b):=by
 unfold apI at h ⊢
 rw [mG,mG] at h
 rcases h with (h|⟨h,g⟩)|(h|⟨h,g⟩)
 ·exact .inl (by omega)
 ·exact .inr ⟨h,.inl g⟩
 ·exact .inl (by omega)
 ·exact .inr ⟨h.symm,.inr g⟩
theorem BO {b:List Int} (h:apI [] b):False:=by cases b<;>simp [apI,ltI] at h
theorem EU {b:List Int} (h:apI b []):False:=BO h.symm
theorem T.sub_set':∀ {a b:List Int} (t x:T),apI a b→T.sub (T.set t a x) b=T.sub t b
 | [],_,_,_,h=>(BO h).elim
 |_::_,[],_,_,h=>(EU h).elim
 | i :: a, j :: b, .mk k n m es, x, h => by
  by_cases hi:0≤i
  ·obtain ⟨i,rfl⟩:∃ n:Nat,i=n:=⟨i.toNat,by omega⟩
   cases he:es[i]? with
   |none=>rw [T.set,if_pos (by omega)];simp only [T.kids,Int.toNat_natCast,he]
   |some e=>
    rw [T.set_cons a x he]
    by_cases hj:0≤j
    ·obtain ⟨j,rfl⟩:∃ n:Nat,j=n:=⟨j.toNat,by omega⟩
     rw [T.sub,T.sub,if_pos (by omega),if_pos (by omega)]
     simp only [T.kids,Int.toNat_natCast]
     by_cases hij:i=j
     ·subst hij
      rw [List.getElem?_set_self (List.getElem?_eq_some_iff.1 he).1,he]
      exact T.sub_set' e x ((EV h).resolve_left (fun g=>g rfl)).2
     ·rw [List.getElem?_set_ne hij]
    ·rw [T.sub,T.sub,if_neg (by omega),if_neg (by omega)]
  ·rw [T.set,if_neg hi]
theorem T.set_comm':∀ {a b:List Int} (t x y:T),apI a b→T.set (T.set t a x) b y=T.set (T.set t b y) a x
 | [],_,_,_,_,h=>(BO h).elim
 |_::_,[],_,_,_,h=>(EU h).elim
 | i :: a, j :: b, .mk k n m es, x, y, h => by
  have L:∀ (q:Int) (r:List Int) (z:T) (es:List T),(¬ ∃ (w:Nat) (e:T),q=w∧es[w]? =some e)→T.set (.mk k n m es) (q::r) z=.mk k n m es:=fun q r z es hq=>by
   rw [T.set]
   split
   ·split
    ·rename_i h1 e h2
     exact absurd ⟨q.toNat,e,by omega,h2⟩ hq
    ·rfl
   ·rfl
  by_cases hi:∃ (w:Nat) (e:T),i=w∧es[w]? =some e
  ·obtain ⟨w,e,rfl,he⟩:=hi
   rw [T.set_cons a x he]
   by_cases hj:∃ (w:Nat) (e:T),j=w∧es[w]? =some e
   ·obtain ⟨v,d,rfl,hd⟩:=hj
    rw [T.set_cons b y hd]
    by_cases hwv:w=v
    ·subst hwv
     rw [he] at hd
     cases hd
     have hw:=(List.getElem?_eq_some_iff.1 he).1
     rw [T.set_cons b y (List.getElem?_set_self hw),T.set_cons a x (List.getElem?_set_self hw),List.set_set,List.set_set,T.set_comm' e x y ((EV h).resolve_left (fun g=>g rfl)).2]
    ·rw [T.set_cons b y (show (es.set w (T.set e a x))[v]? =some d by rw [List.getElem?_set_ne hwv,hd]),T.set_cons a x (show (es.set v (T.set d b y))[w]? =some e by rw [List.getElem?_set_ne (Ne.symm hwv),he]),List.set_comm _ _ hwv]
   ·rw [L j b y es hj,T.set_cons a x he,L j b y]
    rintro ⟨v,d,rfl,hd⟩
    by_cases hwv:w=v
    ·subst hwv;exact hj ⟨w,e,rfl,he⟩
    ·rw [List.getElem?_set_ne hwv] at hd;exact hj ⟨v,d,rfl,hd⟩
  ·rw [L i a x es hi]
   by_cases hj:∃ (w:Nat) (e:T),j=w∧es[w]? =some e
   ·obtain ⟨v,d,rfl,hd⟩:=hj
    rw [T.set_cons b y hd,L i a x]
    rintro ⟨w,e,rfl,he⟩
    by_cases hwv:v=w
    ·subst hwv;exact hi ⟨v,d,rfl,hd⟩
    ·rw [List.getElem?_set_ne hwv] at he;exact hi ⟨w,e,rfl,he⟩
   ·rw [L j b y es hj,L i a x es hi]
theorem T.set_set':∀ {p:List Int} {t n:T} (x y:T),T.sub t p=some n→T.set (T.set t p x) p y=T.set t p y
 | [],_,_,_,_,_=>by rw [T.set,T.set]
 |i::p,t,n,x,y,h=>by
  obtain ⟨j,k,a,m,es,e,rfl,rfl,he,hs⟩:=T.sub_some h
  rw [T.set_cons p x he,T.set_cons p y (List.getElem?_set_self (List.getElem?_eq_some_iff.1 he).1),T.set_cons p y he,List.set_set,T.set_set' x y hs]
theorem T.set_sub':∀ {p:List Int} {t n:T},T.sub t p=some n→T.set t p n=t
 | [],_,_,h=>by rw [T.sub] at h;cases h;rw [T.set]
 |i::p,t,n,h=>by
  obtain ⟨j,k,a,m,es,e,rfl,rfl,he,hs⟩:=T.sub_some h
  rw [T.set_cons p n he,T.set_sub' hs]
  congr 1
  obtain ⟨h1,h2⟩:=List.getElem?_eq_some_iff.1 he
  subst h2
  exact List.set_getElem_self h1
theorem T.sub_self':∀ {p:List Int} {t n:T} (x:T),T.sub t p=some n→T.sub (T.set t p x) p=some x
 | [],_,_,_,_=>by rw [T.set,T.sub]
 |i::p,t,n,x,h=>by
  obtain ⟨j,k,a,m,es,e,rfl,rfl,he,hs⟩:=T.sub_some h
  rw [T.set_cons p x he,T.sub_cons p (List.getElem?_set_self (List.getElem?_eq_some_iff.1 he).1),T.sub_self' x hs]
def dF (f:Si→T):T→List Si→T
 |t,[]=>t
 |t,s::M=>dF f (T.set t s.1 (f s)) M
def apM (M:List Si):Prop:=M.Pairwise fun a b=>ltI a.1 b.1=true
theorem LX:∀ {M:List Si},jR (M.map Prod.fst)=true→apM M
 | [],_=>.nil
 |s::M,h=>by
  simp only [List.map_cons,jR,Bool.and_eq_true] at h
  exact .cons (fun b hb=>List.all_eq_true.1 h.1 b.1 (List.mem_map_of_mem hb)) (LX h.2)
theorem LW:∀ {M:List Si},apM M→jR (M.map Prod.fst)=true
 | [],_=>rfl
 |s::M,h=>by
  cases h with
  |cons h1 h2=>
   simp only [List.map_cons,jR,Bool.and_eq_true]
   exact ⟨List.all_eq_true.2 fun b hb=>by obtain ⟨y,hy,rfl⟩:=List.mem_map.1 hb;exact h1 y hy,LW h2⟩
theorem QP {M:List Si} (h:dE M=true):apM M∧M.length≤3:=by
 simp only [dE,Bool.and_eq_true,decide_eq_true_eq] at h
 exact ⟨LX h.1,h.2⟩
theorem QO {M:List Si} (h:apM M) (hl:M.length≤3):dE M=true:=by
 simp only [dE,Bool.and_eq_true,decide_eq_true_eq]
 exact ⟨LW h,hl⟩
theorem x6 {c:T} {O:List OpT} {f:Si→T}:∀ {M:List Si} (out:T),(∀ s∈M,eU c O s=some (f s))→fX c O out M=some (dF f out M)
 | [],out,_=>by rw [fX,dF]
 |s::M,out,h=>by
  rw [fX,h s (by simp),dF]
  exact x6 _ fun s hs=>h s (by simp [hs])
theorem tK (f:Si→T) {q:List Int}:∀ {M:List Si} (t:T),(∀ s∈M,apI s.1 q)→T.sub (dF f t M) q=T.sub t q
 | [],t,_=>by rw [dF]
 |s::M,t,h=>by rw [dF,tK f _ fun s hs=>h s (by simp [hs]),T.sub_set' _ _ (h s (by simp))]
theorem qH (f:Si→T) {q:List Int} (y:T):∀ {M:List Si} (t:T),(∀ s∈M,apI s.1 q)→T.set (dF f t M) q y=dF f (T.set t q y) M
 | [],t,_=>by rw [dF,dF]
 |s::M,t,h=>by rw [dF,dF,qH f y _ fun s hs=>h s (by simp [hs]),T.set_comm' _ _ _ (h s (by simp))]
theorem mU {s:Si} {M:List Si} (h:apM (s::M)):(∀ x∈M,apI x.1 s.1)∧apM M:=by
 cases h with
 |cons h1 h2=>exact ⟨fun x hx=>.inr (h1 x hx),h2⟩
theorem zS {f:Si→T} {c:T}:∀ {M:List Si} {t:T},apM M→(∀ s∈M,∃ n,T.sub t s.1=some n)→∀ s∈M,T.sub (dF f t M) s.1=some (f s)
 | [],_,_,_,s,h=>by cases h
 |x::M,t,hM,ht,s,h=>by
  obtain ⟨h1,h2⟩:=mU hM
  obtain ⟨n,hn⟩:=ht x (by simp)
  rw [dF]
  rcases List.mem_cons.1 h with rfl|h
  ·rw [tK f _ h1,T.sub_self' _ hn]
  ·exact zS (c:=c) h2 (fun y hy=>by rw [T.sub_set' _ _ (h1 y hy).symm];exact ht y (by simp [hy])) s h
def eD (g:Nat→Bool) (b:Bool):Nat→List Si→List Si
 |_,[]=>[]
 |i,s::M=>if g i=b then s::eD g b (i+1) M else eD g b (i+1) M
theorem gG (g:Nat→Bool) (b:Bool):∀ (i:Nat) (M:List Si),∀ s∈eD g b i M,s∈M
 |_,[],s,h=>by cases h
 |i,x::M,s,h=>by
  rw [eD] at h
  split at h
  ·rcases List.mem_cons.1 h with rfl|h
   ·simp
   ·exact List.mem_cons_of_mem _ (gG g b _ M s h)
  ·exact List.mem_cons_of_mem _ (gG g b _ M s h)
theorem lS (g:Nat→Bool) (b:Bool):∀ (i:Nat) (M:List Si),(eD g b i M).length≤M.length
 |_,[]=>Nat.le_refl _
 |i,x::M=>by
  have:=lS g b (i+1) M
  rw [eD]
  split<;>simp only [List.length_cons]<;>omega
theorem sD (g:Nat→Bool) (b:Bool):∀ (i:Nat) {M:List Si},apM M→apM (eD g b i M)
 |_,[],h=>h
 |i,x::M,h=>by
  cases h with
  |cons h1 h2=>
   rw [eD]
   split
   ·exact .cons (fun y hy=>h1 y (gG g b _ M y hy)) (sD g b _ h2)
   ·exact sD g b _ h2
theorem qI (g:Nat→Bool) (b:Bool):∀ (i:Nat) (M:List Si) (s:Si),eD g b i (M++[s])=eD g b i M++(if g (i+M.length)=b then [s] else [])
 |i,[],s=>by simp [eD]
 |i,x::M,s=>by
  have ih:=qI g b (i+1) M s
  rw [List.cons_append,eD,eD,ih,show i+1+M.length=i+(x::M).length by simp;omega]
  split<;>simp
theorem tL (f:Si→T) (g:Nat→Bool):∀ (i:Nat) {M:List Si} (t:T),apM M→dF f (dF f t (eD g true i M)) (eD g false i M)=dF f t M
 |_,[],_,_=>rfl
 |i,s::M,t,h=>by
  obtain ⟨h1,h2⟩:=mU h
  rw [eD,eD]
  cases hg:g i with
  |true=>
   simp only [if_true,Bool.true_eq_false,if_false,dF]
   exact tL f g _ _ h2
  |false=>
   simp only [if_true,Bool.false_eq_true,if_false,dF]
   rw [qH f _ _ fun y hy=>h1 y (gG g true _ M y hy)]
   exact tL f g _ _ h2
theorem I2 {f:Si→T} {s:Si} {M:List Si} {c n:T} (h:apM (s::M)) (hn:T.sub c s.1=some n):T.set (dF f c (s::M)) s.1 n=dF f c M:=by
 obtain ⟨h1,h2⟩:=mU h
 rw [dF,qH f _ _ h1,T.set_set' _ _ hn,T.set_sub' hn]
def szS (f:Si→T):List Si→Nat
 | []=>0
 |s::M=>T.size (f s)+szS f M
theorem qG {f g:Si→T}:∀ {M:List Si} {t:T},apM M→(∀ s∈M,T.sub t s.1=some (g s))→T.size (dF f t M)+szS g M=T.size t+szS f M
 | [],t,_,_=>by rw [dF,szS,szS]
 |s::M,t,h,hs=>by
  obtain ⟨h1,h2⟩:=mU h
  have h3:=T.set_size (f s) (hs s (by simp))
  have h4:=qG (f:=f) (g:=g) (t:=T.set t s.1 (f s)) h2 fun y hy=>by rw [T.sub_set' _ _ (h1 y hy).symm];exact hs y (by simp [hy])
  rw [dF,szS,szS]
  omega
theorem JC {f g:Si→T} {k:Nat}:∀ {M:List Si},(∀ s∈M,T.size (f s)≤k*T.size (g s))→szS f M≤k*szS g M
 | [],_=>by simp [szS]
 |s::M,h=>by
  have h1:=h s (by simp)
  have h2:=JC (M:=M) fun y hy=>h y (by simp [hy])
  rw [szS,szS,Nat.mul_add]
  omega
theorem GI:∀ M:List Si,szS (fun _=>T.mk 0 0 0 []) M=M.length
 | []=>rfl
 |s::M=>by
  have:T.size (T.mk 0 0 0 [])=1:=rfl
  rw [szS,GI M,this,List.length_cons];omega
theorem MH {g:Si→T} {M:List Si} {t:T} (h:apM M) (hs:∀ s∈M,T.sub t s.1=some (g s)):szS g M≤T.size t+M.length:=by
 have:=qG (f:=fun _=>T.mk 0 0 0 []) h hs
 rw [GI] at this
 omega
theorem HY {c d:T} {O:List OpT} {s:Si} (h:T.sub c s.1=T.sub d s.1):eU c O s=eU d O s:=by rw [eU,eU,h]
structure SitesOf (c:T) (O:List OpT) (M:List Si) (f nd:Si→T):Prop where
 ap:apM M
 len:M.length≤3
 st:∀ s∈M,eU c O s=some (f s)
 sb:∀ s∈M,T.sub c s.1=some (nd s)
 sz:∀ s∈M,T.size (f s)≤32*T.size (nd s)
 pl:∀ s∈M,s.1.length≤2000000000000
theorem SitesOf.size {c:T} {O:List OpT} {M:List Si} {f nd:Si→T} (h:SitesOf c O M f nd) (hc:T.size c≤16000000000):T.size (dF f c M)≤600000000000:=by
 have h1:=qG (f:=f) h.ap h.sb
 have h2:=JC (k:=32) h.sz
 have h3:=MH h.ap h.sb
 have h4:=h.len
 omega
theorem SitesOf.make {c:T} {O:List OpT} {M:List Si} {f nd:Si→T} (h:SitesOf c O M f nd) (hc:T.size c≤16000000000) (hO:∀ o∈O,OpB o) (d:T) (hd:T.size d≤600000000000) (hs:∀ s∈M,T.sub d s.1=T.sub c s.1):
  Pure Tryz.prog G0 13 [.agg (T.enc d),.sl false (O.map opC),.agg [.sl false (mC M)]] (.tup [.agg (T.enc (dF f d M)),.int .i64 0]):=by
 have h3:=h.len
 have k:=Q2 d (by omega) O hO M (by omega) h.pl
 rw [jS,if_pos (QO h.ap h3),x6 (f:=f) d (fun s hs'=>by rw [HY (hs s hs')];exact h.st s hs')] at k
 exact k
theorem SitesOf.part {c:T} {O:List OpT} {M A:List Si} {f nd:Si→T} (h:SitesOf c O M f nd) (ha:apM A) (hm:∀ s∈A,s∈M) (hl:A.length≤M.length):SitesOf c O A f nd:=
 ⟨ha,Nat.le_trans hl h.len,fun s hs=>h.st s (hm s hs),fun s hs=>h.sb s (hm s hs),fun s hs=>h.sz s (hm s hs),fun s hs=>h.pl s (hm s hs)⟩
theorem MS {c:T} {O:List OpT} {M:List Si} (hc:T.size c≤16000000000) (hap:dE M=true) (hMs:∀ s∈M,∃ x∈dJ c O,s=siI x):SitesOf c O M (fun s=>(eU c O s).getD (.mk 0 0 0 [])) (fun s=>(T.sub c s.1).getD (.mk 0 0 0 [])):=by
 obtain ⟨h1,h2⟩:=QP hap
 refine ⟨h1,h2,fun s hs=>?_,fun s hs=>?_,fun s hs=>?_,fun s hs=>?_⟩
 ·obtain ⟨n,j,o,u,e1,e2,e3,e4,e5⟩:=m8 (hMs s hs)
  simp only [e5,Option.getD_some]
 ·obtain ⟨n,j,o,u,e1,e2,e3,e4,e5⟩:=m8 (hMs s hs)
  simp only [e2,Option.getD_some]
 ·obtain ⟨n,j,o,u,e1,e2,e3,e4,e5⟩:=m8 (hMs s hs)
  simp only [e2,e5,Option.getD_some]
  exact nM (T.size_pos n) (Nat.le_refl _) e4
 ·obtain ⟨x,hx,rfl⟩:=hMs s hs
  have:=n7 c O x hx
  show x.1.length≤_
  omega
theorem TG {c:T} {O:List OpT}:∀ {M:List Si} {out W:T},fX c O out M=some W→∀ s∈M,∃ u,eU c O s=some u
 | [],_,_,_,s,hs=>by cases hs
 |x::M,out,W,h,s,hs=>by
  rw [fX] at h
  cases hx:eU c O x with
  |none=>rw [hx] at h;cases h
  |some u=>
   rw [hx] at h
   rcases List.mem_cons.1 hs with rfl|hs
   ·exact ⟨u,hx⟩
   ·exact TG h s hs
theorem TK {c W:T} {O:List OpT} {M:List Si} (hap:dE M=true) (h:fX c O c M=some W) (hp:∀ s∈M,s.1.length≤2000000000000):∃ f nd,SitesOf c O M f nd∧W=dF f c M:=by
 obtain ⟨h1,h2⟩:=QP hap
 have hs:=TG h
 have H:SitesOf c O M (fun s=>(eU c O s).getD (.mk 0 0 0 [])) (fun s=>(T.sub c s.1).getD (.mk 0 0 0 [])):=by
  refine ⟨h1,h2,fun s hm=>?_,fun s hm=>?_,fun s hm=>?_,hp⟩
  ·obtain ⟨u,hu⟩:=hs s hm
   simp only [hu,Option.getD_some]
  ·obtain ⟨u,hu⟩:=hs s hm
   obtain ⟨n,o,e1,e2,e3,e4⟩:=qC hu
   simp only [e1,Option.getD_some]
  ·obtain ⟨u,hu⟩:=hs s hm
   obtain ⟨n,o,e1,e2,e3,e4⟩:=qC hu
   simp only [e1,hu,Option.getD_some]
   exact nM (T.size_pos n) (Nat.le_refl _) e4
 exact ⟨_,_,H,Option.some.inj (h.symm.trans (x6 c H.st))⟩
theorem IJ {α:Type} {M:List α} {i:Nat} {s: α} (h:M[i]? =some s):M.drop i=s::M.drop (i+1):=by
 obtain ⟨q1,q2⟩:=List.getElem?_eq_some_iff.1 h
 rw [List.drop_eq_getElem_cons q1,q2]
theorem SitesOf.drop {c:T} {O:List OpT} {M:List Si} {f nd:Si→T} (h:SitesOf c O M f nd) (i:Nat):SitesOf c O (M.drop i) f nd:=
 h.part (h.ap.drop) (fun _ hs=>List.mem_of_mem_drop hs) (by rw [List.length_drop];omega)
end Go.Proofs.YtggflhbigolakaaGreatDoor
