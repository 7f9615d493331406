import Derived.Test.YtggflhbigolakaaGreatDoorUN
import Derived.Test.YtggflhbigolakaaGreatDoorUS
set_option linter.unusedVariables false
set_option linter.unusedSimpArgs false
namespace Go.Proofs.YtggflhbigolakaaGreatDoor
open Go.AM
attribute [local irreducible] AWp aY bC bI bU bW aN aS bL
set_option maxRecDepth 100000
theorem DS (t:T) (p:List Int):∀ (ol:List OpT) (k:Nat),∀ x∈fL t p ol k,∃ (j:Nat) (o:OpT) (u:T),x=(p,k+j)∧ol[j]? =some o∧qV o t=some u
 | [],_,x,h=>by cases h
 |o::ol,k,x,h=>by
  rw [fL] at h
  rcases List.mem_append.1 h with h|h
  ·cases ha:qV o t with
   |none=>rw [ha] at h;cases h
   |some u=>
    rw [ha] at h
    simp only [DU,List.mem_singleton] at h
    exact ⟨0,o,u,h,rfl,ha⟩
  ·obtain ⟨j,o',u,h1,h2,h3⟩:=DS t p ol (k+1) x h
   exact ⟨j+1,o',u,by rw [h1];congr 1;omega,by simpa using h2,h3⟩
theorem tH (t:T) (ol:List OpT):∀ (ps:List (List Int)),∀ x∈dC t ol ps,∃ (n:T) (j:Nat) (o:OpT) (u:T),x.2=j∧T.sub t x.1=some n∧ol[j]? =some o∧qV o n=some u
 | [],x,h=>by cases h
 |p::ps,x,h=>by
  rw [dC] at h
  rcases List.mem_append.1 h with h|h
  ·cases hs:T.sub t p with
   |none=>rw [hs] at h;cases h
   |some n=>
    rw [hs] at h
    obtain ⟨j,o,u,rfl,h2,h3⟩:=DS n p ol 0 x h
    exact ⟨n,j,o,u,by simp,hs,h2,h3⟩
  ·exact tH t ol ps x h
theorem m8 {c:T} {O:List OpT} {s:Si} (h:∃ x∈dJ c O,s=siI x):∃ (n:T) (j:Nat) (o:OpT) (u:T),s.2=j∧T.sub c s.1=some n∧O[j]? =some o∧qV o n=some u∧eU c O s=some u:=by
 obtain ⟨x,hx,rfl⟩:=h
 unfold dJ at hx
 split at hx
 ·cases hx
 ·rename_i hl
  obtain ⟨n,j,o,u,h1,h2,h3,h4⟩:=tH c O _ x hx
  refine ⟨n,j,o,u,by rw [← h1];rfl,h2,h3,h4,?_⟩
  show eU c O (x.1,(x.2:Int))=some u
  have ha:atO O (x.2:Int)=some o:=by rw [atO,if_pos (by omega),h1];simpa using h3
  rw [eU]
  simp only [h2,ha,if_pos (show O.length≤24 by omega)]
  exact h4
def apI (a b:List Int):Prop:=ltI a b=true∨ltI b a=true
theorem apI.symm {a b:List Int} (h:apI a b):apI b a:=Or.symm h
theorem EV {i j:Int} {a b:List Int} (h:apI (i::a) (j::b)):i≠j∨(i=j∧apI a b):=by
 unfold apI at h ⊢
 rw [mG,mG] at h
 rcases h with (h|⟨h,g⟩)|(h|⟨h,g⟩)
 ·exact .inl (by omega)
 ·exact .inr ⟨h,.inl g⟩
 ·exact .inl (by omega)
 ·exact .inr ⟨h.symm,.inr g⟩
theorem BO {b:List Int} (h:apI [] b):False:=by cases b<;>simp [apI,ltI] at h
theorem EU {b:List Int} (h:apI b []):False:=BO h.symm
theorem T.sub_set':∀ {a b:List Int} (t x:T),apI a b→T.sub (T.set t a x) b=T.sub t b
 | [],_,_,_,h=>(BO h).elim
 |_::_,[],_,_,h=>(EU h).elim
 | i :: a, j :: b, .mk k n m es, x, h => by
  by_cases hi:0≤i
  ·obtain ⟨i,rfl⟩:∃ n:Nat,i=n:=⟨i.toNat,by omega⟩
   cases he:es[i]? with
   |none=>rw [T.set,if_pos (by omega)];simp only [T.kids,Int.toNat_natCast,he]
   |some e=>
    rw [T.set_cons a x he]
    by_cases hj:0≤j
    ·obtain ⟨j,rfl⟩:∃ n:Nat,j=n:=⟨j.toNat,by omega⟩
     rw [T.sub,T.sub,if_pos (by omega),if_pos (by omega)]
     simp only [T.kids,Int.toNat_natCast]
     by_cases hij:i=j
     ·subst hij
      rw [List.getElem?_set_self (List.getElem?_eq_some_iff.1 he).1,he]
      exact T.sub_set' e x ((EV h).resolve_left (fun g=>g rfl)).2
     ·rw [List.getElem?_set_ne hij]
    ·rw [T.sub,T.sub,if_neg (by omega),if_neg (by omega)]
  ·rw [T.set,if_neg hi]
theorem T.set_comm':∀ {a b:List Int} (t x y:T),apI a b→T.set (T.set t a x) b y=T.set (T.set t b y) a x
 | [],_,_,_,_,h=>(BO h).elim
 |_::_,[],_,_,_,h=>(EU h).elim
 | i :: a, j :: b, .mk k n m es, x, y, h => by
  have L:∀ (q:Int) (r:List Int) (z:T) (es:List T),(¬ ∃ (w:Nat) (e:T),q=w∧es[w]? =some e)→T.set (.mk k n m es) (q::r) z=.mk k n m es:=fun q r z es hq=>by
   rw [T.set]
   split
   ·split
    ·rename_i h1 e h2
     exact absurd ⟨q.toNat,e,by omega,h2⟩ hq
    ·rfl
   ·rfl
  by_cases hi:∃ (w:Nat) (e:T),i=w∧es[w]? =some e
  ·obtain ⟨w,e,rfl,he⟩:=hi
   rw [T.set_cons a x he]
   by_cases hj:∃ (w:Nat) (e:T),j=w∧es[w]? =some e
   ·obtain ⟨v,d,rfl,hd⟩:=hj
    rw [T.set_cons b y hd]
    by_cases hwv:w=v
    ·subst hwv
     rw [he] at hd
     cases hd
     have hw:=(List.getElem?_eq_some_iff.1 he).1
     rw [T.set_cons b y (List.getElem?_set_self hw),T.set_cons a x (List.getElem?_set_self hw),List.set_set,List.set_set,T.set_comm' e x y ((EV h).resolve_left (fun g=>g rfl)).2]
    ·rw [T.set_cons b y (show (es.set w (T.set e a x))[v]? =some d by rw [List.getElem?_set_ne hwv,hd]),T.set_cons a x (show (es.set v (T.set d b y))[w]? =some e by rw [List.getElem?_set_ne (Ne.symm hwv),he]),List.set_comm _ _ hwv]
   ·rw [L j b y es hj,T.set_cons a x he,L j b y]
    rintro ⟨v,d,rfl,hd⟩
    by_cases hwv:w=v
    ·subst hwv;exact hj ⟨w,e,rfl,he⟩
    ·rw [List.getElem?_set_ne hwv] at hd;exact hj ⟨v,d,rfl,hd⟩
  ·rw [L i a x es hi]
   by_cases hj:∃ (w:Nat) (e:T),j=w∧es[w]? =some e
   ·obtain ⟨v,d,rfl,hd⟩:=hj
    rw [T.set_cons b y hd,L i a x]
    rintro ⟨w,e,rfl,he⟩
    by_cases hwv:v=w
    ·subst hwv;exact hi ⟨v,d,rfl,hd⟩
    ·rw [List.getElem?_set_ne hwv] at he;exact hi ⟨w,e,rfl,he⟩
   ·rw [L j b y es hj,L i a x es hi]
theorem T.set_set':∀ {p:List Int} {t n:T} (x y:T),T.sub t p=some n→T.set (T.set t p x) p y=T.set t p y
 | [],_,_,_,_,_=>by rw [T.set,T.set]
 |i::p,t,n,x,y,h=>by
  obtain ⟨j,k,a,m,es,e,rfl,rfl,he,hs⟩:=T.sub_some h
  rw [T.set_cons p x he,T.set_cons p y (List.getElem?_set_self (List.getElem?_eq_some_iff.1 he).1),T.set_cons p y he,List.set_set,T.set_set' x y hs]
theorem T.set_sub':∀ {p:List Int} {t n:T},T.sub t p=some n→T.set t p n=t
 | [],_,_,h=>by rw [T.sub] at h;cases h;rw [T.set]
 |i::p,t,n,h=>by
  obtain ⟨j,k,a,m,es,e,rfl,rfl,he,hs⟩:=T.sub_some h
  rw [T.set_cons p n he,T.set_sub' hs]
  congr 1
  obtain ⟨h1,h2⟩:=List.getElem?_eq_some_iff.1 he
  subst h2
  exact List.set_getElem_self h1
theorem T.sub_self':∀ {p:List Int} {t n:T} (x:T),T.sub t p=some n→T.sub (T.set t p x) p=some x
 | [],_,_,_,_=>by rw [T.set,T.sub]
 |i::p,t,n,x,h=>by
  obtain ⟨j,k,a,m,es,e,rfl,rfl,he,hs⟩:=T.sub_some h
  rw [T.set_cons p x he,T.sub_cons p (List.getElem?_set_self (List.getElem?_eq_some_iff.1 he).1),T.sub_self' x hs]
def dF (f:Si→T):T→List Si→T
 |t,[]=>t
 |t,s::M=>dF f (T.set t s.1 (f s)) M
def apM (M:List Si):Prop:=M.Pairwise fun a b=>ltI a.1 b.1=true
theorem LX:∀ {M:List Si},jR (M.map Prod.fst)=true→apM M
 | [],_=>.nil
 |s::M,h=>by
  simp only [List.map_cons,jR,Bool.and_eq_true] at h
  exact .cons (fun b hb=>List.all_eq_true.1 h.1 b.1 (List.mem_map_of_mem hb)) (LX h.2)
theorem LW:∀ {M:List Si},apM M→jR (M.map Prod.fst)=true
 | [],_=>rfl
 |s::M,h=>by
  cases h with
  |cons h1 h2=>
   simp only [List.map_cons,jR,Bool.and_eq_true]
   exact ⟨List.all_eq_true.2 fun b hb=>by obtain ⟨y,hy,rfl⟩:=List.mem_map.1 hb;exact h1 y hy,LW h2⟩
theorem QP {M:List Si} (h:dE M=true):apM M∧M.length≤3:=by
 simp only [dE,Bool.and_eq_true,decide_eq_true_eq] at h
 exact ⟨LX h.1,h.2⟩
theorem QO {M:List Si} (h:apM M) (hl:M.length≤3):dE M=true:=by
 simp only [dE,Bool.and_eq_true,decide_eq_true_eq]
 exact ⟨LW h,hl⟩
theorem x6 {c:T} {O:List OpT} {f:Si→T}:∀ {M:List Si} (out:T),(∀ s∈M,eU c O s=some (f s))→fX c O out M=some (dF f out M)
 | [],out,_=>by rw [fX,dF]
 |s::M,out,h=>by
  rw [fX,h s (by simp),dF]
  exact x6 _ fun s hs=>h s (by simp [hs])
theorem tK (f:Si→T) {q:List Int}:∀ {M:List Si} (t:T),(∀ s∈M,apI s.1 q)→T.sub (dF f t M) q=T.sub t q
 | [],t,_=>by rw [dF]
 |s::M,t,h=>by rw [dF,tK f _ fun s hs=>h s (by simp [hs]),T.sub_set' _ _ (h s (by simp))]
theorem qH (f:Si→T) {q:List Int} (y:T):∀ {M:List Si} (t:T),(∀ s∈M,apI s.1 q)→T.set (dF f t M) q y=dF f (T.set t q y) M
 | [],t,_=>by rw [dF,dF]
 |s::M,t,h=>by rw [dF,dF,qH f y _ fun s hs=>h s (by simp [hs]),T.set_comm' _ _ _ (h s (by simp))]
theorem mU {s:Si} {M:List Si} (h:apM (s::M)):(∀ x∈M,apI x.1 s.1)∧apM M:=by
 cases h with
 |cons h1 h2=>exact ⟨fun x hx=>.inr (h1 x hx),h2⟩
theorem zS {f:Si→T} {c:T}:∀ {M:List Si} {t:T},apM M→(∀ s∈M,∃ n,T.sub t s.1=some n)→∀ s∈M,T.sub (dF f t M) s.1=some (f s)
 | [],_,_,_,s,h=>by cases h
 |x::M,t,hM,ht,s,h=>by
  obtain ⟨h1,h2⟩:=mU hM
  obtain ⟨n,hn⟩:=ht x (by simp)
  rw [dF]
  rcases List.mem_cons.1 h with rfl|h
  ·rw [tK f _ h1,T.sub_self' _ hn]
  ·exact zS (c:=c) h2 (fun y hy=>by rw [T.sub_set' _ _ (h1 y hy).symm];exact ht y (by simp [hy])) s h
def eD (g:Nat→Bool) (b:Bool):Nat→List Si→List Si
 |_,[]=>[]
 |i,s::M=>if g i=b then s::eD g b (i+1) M else eD g b (i+1) M
theorem gG (g:Nat→Bool) (b:Bool):∀ (i:Nat) (M:List Si),∀ s∈eD g b i M,s∈M
 |_,[],s,h=>by cases h
 |i,x::M,s,h=>by
  rw [eD] at h
  split at h
  ·rcases List.mem_cons.1 h with rfl|h
   ·simp
   ·exact List.mem_cons_of_mem _ (gG g b _ M s h)
  ·exact List.mem_cons_of_mem _ (gG g b _ M s h)
theorem lS (g:Nat→Bool) (b:Bool):∀ (i:Nat) (M:List Si),(eD g b i M).length≤M.length
 |_,[]=>Nat.le_refl _
 |i,x::M=>by
  have:=lS g b (i+1) M
  rw [eD]
  split<;>simp only [List.length_cons]<;>omega
theorem sD (g:Nat→Bool) (b:Bool):∀ (i:Nat) {M:List Si},apM M→apM (eD g b i M)
 |_,[],h=>h
 |i,x::M,h=>by
  cases h with
  |cons h1 h2=>
   rw [eD]
   split
   ·exact .cons (fun y hy=>h1 y (gG g b _ M y hy)) (sD g b _ h2)
   ·exact sD g b _ h2
theorem qI (g:Nat→Bool) (b:Bool):∀ (i:Nat) (M:List Si) (s:Si),eD g b i (M++[s])=eD g b i M++(if g (i+M.length)=b then [s] else [])
 |i,[],s=>by simp [eD]
 |i,x::M,s=>by
  have ih:=qI g b (i+1) M s
  rw [List.cons_append,eD,eD,ih,show i+1+M.length=i+(x::M).length by simp;omega]
  split<;>simp
theorem tL (f:Si→T) (g:Nat→Bool):∀ (i:Nat) {M:List Si} (t:T),apM M→dF f (dF f t (eD g true i M)) (eD g false i M)=dF f t M
 |_,[],_,_=>rfl
 |i,s::M,t,h=>by
  obtain ⟨h1,h2⟩:=mU h
  rw [eD,eD]
  cases hg:g i with
  |true=>
   simp only [if_true,Bool.true_eq_false,if_false,dF]
   exact tL f g _ _ h2
  |false=>
   simp only [if_true,Bool.false_eq_true,if_false,dF]
   rw [qH f _ _ fun y hy=>h1 y (gG g true _ M y hy)]
   exact tL f g _ _ h2
theorem I2 {f:Si→T} {s:Si} {M:List Si} {c n:T} (h:apM (s::M)) (hn:T.sub c s.1=some n):T.set (dF f c (s::M)) s.1 n=dF f c M:=by
 obtain ⟨h1,h2⟩:=mU h
 rw [dF,qH f _ _ h1,T.set_set' _ _ hn,T.set_sub' hn]
def szS (f:Si→T):List Si→Nat
 | []=>0
 |s::M=>T.size (f s)+szS f M
theorem qG {f g:Si→T}:∀ {M:List Si} {t:T},apM M→(∀ s∈M,T.sub t s.1=some (g s))→T.size (dF f t M)+szS g M=T.size t+szS f M
 | [],t,_,_=>by rw [dF,szS,szS]
 |s::M,t,h,hs=>by
  obtain ⟨h1,h2⟩:=mU h
  have h3:=T.set_size (f s) (hs s (by simp))
  have h4:=qG (f:=f) (g:=g) (t:=T.set t s.1 (f s)) h2 fun y hy=>by rw [T.sub_set' _ _ (h1 y hy).symm];exact hs y (by simp [hy])
  rw [dF,szS,szS]
  omega
theorem JC {f g:Si→T} {k:Nat}:∀ {M:List Si},(∀ s∈M,T.size (f s)≤k*T.size (g s))→szS f M≤k*szS g M
 | [],_=>by simp [szS]
 |s::M,h=>by
  have h1:=h s (by simp)
  have h2:=JC (M:=M) fun y hy=>h y (by simp [hy])
  rw [szS,szS,Nat.mul_add]
  omega
theorem GI:∀ M:List Si,szS (fun _=>T.mk 0 0 0 []) M=M.length
 | []=>rfl
 |s::M=>by
  have:T.size (T.mk 0 0 0 [])=1:=rfl
  rw [szS,GI M,this,List.length_cons];omega
theorem MH {g:Si→T} {M:List Si} {t:T} (h:apM M) (hs:∀ s∈M,T.sub t s.1=some (g s)):szS g M≤T.size t+M.length:=by
 have:=qG (f:=fun _=>T.mk 0 0 0 []) h hs
 rw [GI] at this
 omega
theorem P2 {x:Int} (h1:0≤x) (h2:x≤9223372036854775807):IntKind.u64.wrap x=x:=by
 simp only [IntKind.wrap,IntKind.bits,IntKind.signed,Bool.false_and]
 simp;omega
abbrev BkT:=Int × Int × Int × List (List AV)
def bkV (b:BkT):AV:=.agg [.int .i64 b.1,.int .i64 b.2.1,.int .i64 b.2.2.1,.sl false b.2.2.2]
def HT (c:AV) (w:AV) (OL MC:List (List AV)) (y z:BkT) (i:Nat):Prop:=∃ (ix:List (List AV)) (j:Nat) (onm:ByteArray) (ofa ofb ofc opa opb opc oob:Int) (ofd opd:List (List AV)) (na nb nc ua ub uc:Int) (nd ud:List (List AV)),
 MC[i]? =some [.sl false ix,.int .i64 (j:Nat)]∧OL[j]? =some [AV.str onm,.int .i64 ofa,.int .i64 ofb,.int .i64 ofc,.sl false ofd,.int .i64 opa,.int .i64 opb,.int .i64 opc,.sl false opd,.int .i64 oob]∧
 Pure Tryz.prog G0 24 [c,.sl false ix] (.tup [.agg [.int .i64 na,.int .i64 nb,.int .i64 nc,.sl false nd],.bool true])∧
 Pure Tryz.prog G0 24 [w,.sl false ix] (.tup [.agg [.int .i64 ua,.int .i64 ub,.int .i64 uc,.sl false ud],.bool true])∧
 Pure Tryz.prog G0 25 [.agg [AV.str onm,.int .i64 ofa,.int .i64 ofb,.int .i64 ofc,.sl false ofd,.int .i64 opa,.int .i64 opb,.int .i64 opc,.sl false opd,.int .i64 oob],.agg [.int .i64 na,.int .i64 nb,.int .i64 nc,.sl false nd]] (.tup [.agg [.int .i64 ua,.int .i64 ub,.int .i64 uc,.sl false ud],.bool true])∧
 Pure Tryz.prog G0 23 [.agg [.int .i64 ua,.int .i64 ub,.int .i64 uc,.sl false ud],.agg [.int .i64 ua,.int .i64 ub,.int .i64 uc,.sl false ud]] (.int .i64 0)∧
 Pure Tryz.prog G0 26 [bkV y,.sl false ix,.agg [.int .i64 na,.int .i64 nb,.int .i64 nc,.sl false nd]] (.tup [bkV z,.int .i64 0])
set_option maxHeartbeats 32000000 in
theorem O0 (hlv:Pure Tryz.prog G0 16 [] (.bool true)) (l m n:List Int) (bits v:Int) (ca cb cc wa wb wc ha hb hc:Int) (cd wd hd:List (List AV)) (OL:List (List AV)) (M:List Si) (g:Nat→Bool) (bk:Nat→BkT)
  (hM3:M.length≤3) (hv:∀ i:Nat,i<M.length→((v.fdiv (2 ^ min i IntKind.i64.bits)).tmod 2==1)=g i)
  (htc:inE aC cd=true) (htw:inE aC wd=true) (hth:inE aC hd=true) (hto:inE aC OL=true) (htb:∀ i,inE aC (bk i).2.2.2=true)
  (hb0:bk 0=(wa,wb,wc,wd)) (hbn:bk M.length=(ca,cb,cc,cd))
  (klab:Pure Tryz.prog G0 10 [b9 l,b9 m] (.tup [.agg [.int .i64 ca,.int .i64 cb,.int .i64 cc,.sl false cd],.sl false OL])) (kmut:Pure Tryz.prog G0 11 [.agg [.int .i64 ca,.int .i64 cb,.int .i64 cc,.sl false cd],.sl false OL,b9 n] (.agg [.sl false (mC M)]))
  (kmk:Pure Tryz.prog G0 13 [.agg [.int .i64 ca,.int .i64 cb,.int .i64 cc,.sl false cd],.sl false OL,.agg [.sl false (mC M)]] (.tup [.agg [.int .i64 wa,.int .i64 wb,.int .i64 wc,.sl false wd],.int .i64 0]))
  (kma:Pure Tryz.prog G0 13 [.agg [.int .i64 ca,.int .i64 cb,.int .i64 cc,.sl false cd],.sl false OL,.agg [.sl false (mC (eD g true 0 M))]] (.tup [.agg [.int .i64 ha,.int .i64 hb,.int .i64 hc,.sl false hd],.int .i64 0]))
  (kmb:Pure Tryz.prog G0 13 [.agg [.int .i64 ha,.int .i64 hb,.int .i64 hc,.sl false hd],.sl false OL,.agg [.sl false (mC (eD g false 0 M))]] (.tup [.agg [.int .i64 wa,.int .i64 wb,.int .i64 wc,.sl false wd],.int .i64 0]))
  (kcw:Pure Tryz.prog G0 23 [.agg [.int .i64 wa,.int .i64 wb,.int .i64 wc,.sl false wd],.agg [.int .i64 wa,.int .i64 wb,.int .i64 wc,.sl false wd]] (.int .i64 0)) (kcc:Pure Tryz.prog G0 23 [.agg [.int .i64 ca,.int .i64 cb,.int .i64 cc,.sl false cd],.agg [.int .i64 ca,.int .i64 cb,.int .i64 cc,.sl false cd]] (.int .i64 0))
  (kar:Pure Tryz.prog G0 19 [.int .i64 bits,.int .i64 8] (.int .i64 v))
  (hrd:∀ i,i<M.length→HT (.agg [.int .i64 ca,.int .i64 cb,.int .i64 cc,.sl false cd]) (.agg [.int .i64 wa,.int .i64 wb,.int .i64 wc,.sl false wd]) OL (mC M) (bk i) (bk (i+1)) i):
  Pure Tryz.prog G0 6 [b9 l,b9 m,b9 n,.int .i64 bits] (.bool true):=by
 have hl1:inR aC (b9 l)=true:=eW l
 have hm1:inR aC (b9 m)=true:=eW m
 have hn1:inR aC (b9 n)=true:=eW n
 generalize b9 l=el at klab hl1 ⊢
 generalize b9 m=em at klab hm1 ⊢
 generalize b9 n=en at kmut hn1 ⊢
 have ht:=cK M
 have hn:=gQ M
 have hg:=fun (i:Nat) (s:Si)=>jG (M:=M) (i:=i) (s:=s)
 generalize mC M=MC at ht hn hg kmut kmk hrd ⊢
 refine aQ hG0 Tryz.func6 rfl (by kernel_rfl) (by simp [Tryz.ntmps6]) (by simp only [inL,Bool.and_true,Bool.and_eq_true];exact ⟨hl1,hm1,hn1,rfl⟩) (by rfl) ?_
 simp only [Tryz.ntmps6,aH,Nat.reduceAdd]
 repeat' (first|(refine u'S ?_;simp only [wS,simprocAttr])|refine u'Q fun _ _=>?_|refine aO ?_|refine aP (fun hg=>?_) fun hg=>?_|refine u'G ?_|fail)
 refine aJ (α:={i:Nat // i≤M.length}) (fun i=>[(3,.int .i64 bits),(8,.bool false),(9,.ptr 0 0 0),(10,.sl false OL),(11,.ptr 1 0 0),(12,.ptr 2 0 0),(13,.int .i64 0),(14,.ptr 3 0 0),(15,.ptr 4 0 0),(16,.int .i64 (i.1:Nat))]) (fun i=>[.cells 0 [.int .i64 ca,.int .i64 cb,.int .i64 cc,.sl false cd],.cells 0 [.sl false MC],.cells 0 [.int .i64 wa,.int .i64 wb,.int .i64 wc,.sl false wd],.cells 0 [rv 5 ((mC (eD g true 0 (M.take i.1))).length - 1) 2 (mC (eD g true 0 (M.take i.1)))],.cells 0 [rv 6 ((mC (eD g false 0 (M.take i.1))).length - 1) 2 (mC (eD g false 0 (M.take i.1)))],rvR ((mC (eD g true 0 (M.take i.1))).length - 1) (mC (eD g true 0 (M.take i.1))),rvR ((mC (eD g false 0 (M.take i.1))).length - 1) (mC (eD g false 0 (M.take i.1)))]) (fun i=>M.length - i.1) ⟨0,Nat.zero_le _⟩ (bN [] (kp [0,1,2,3,4,5,6]) hG0 (fun r hr=>absurd hr (Nat.not_lt_zero r)) ?_ ?_ ?_) ?_
 ·simp only [wS,simprocAttr,cS,Frz,and_true,true_or]
 ·simp only [List.all_cons,List.all_nil,inR,aA hto,Bool.and_true,Bool.true_and]
  rfl
 ·simp only [wS,simprocAttr,List.take_zero,eD,mC,List.map_nil,dS,dM]
  simp only [ToH,and_true]
  exact ⟨kr rfl (aD (by simp only [inL,inR,htc,Bool.and_self])) (by simp),kr rfl (aD (by simp only [inL,inR,ht,Bool.and_self])) (by simp),kr rfl (aD (by simp only [inL,inR,htw,Bool.and_self])) (by simp),.inr ⟨rfl,rfl,.inr ⟨.inl (by simp),.inr ⟨0,_,_,rfl,rfl,.inr .toRsv,trivial⟩⟩⟩,.inr ⟨rfl,rfl,.inr ⟨.inl (by simp),.inr ⟨0,_,_,rfl,rfl,.inr .toRsv,trivial⟩⟩⟩⟩
 ·rintro ⟨i,hi⟩ K hK
  try simp only at hi
  by_cases hlt:i<M.length
  ·have c1:decide (((i:Nat):Int)<((MC.length:Nat):Int))=true:=by simp;omega
   have hA:i<MC.length:=by omega
   have e3:=aL (k:=i) hlt (by omega)
   have eu:IntKind.u64.wrap ((i:Nat):Int)=((i:Nat):Int):=P2 (by omega) (by omega)
   have e0:(((i:Nat):Int)<0)=False:=by simp
   have hgi:=hv i hlt
   obtain ⟨x,hx⟩:∃ x,M[i]? =some x:=⟨_,List.getElem?_eq_getElem hlt⟩
   have gx:=hg i x hx
   have htk:M.take (i+1)=M.take i++[x]:=by rw [List.take_add_one,hx];rfl
   have hA2:=qI g true 0 (M.take i) x
   have hB2:=qI g false 0 (M.take i) x
   rw [← htk,List.length_take,Nat.min_eq_left hi,Nat.zero_add] at hA2 hB2
   have hal:=lS g true 0 (M.take i)
   have hbl:=lS g false 0 (M.take i)
   rw [List.length_take,Nat.min_eq_left hi] at hal hbl
   generalize eD g true 0 (M.take i)=a at hA2 hal ⊢
   generalize eD g false 0 (M.take i)=b at hB2 hbl ⊢
   have hat:=cK a
   have hbt:=cK b
   have hal':=gQ a
   have hbl':=gQ b
   have ha2:=oI a
   have hb2:=oI b
   have hva:=BZ (l:=mC a)
   have hvb:=BZ (l:=mC b)
   have hma:mC (a++[x])=mC a++[[AV.sl false (aE x.1),AV.int .i64 x.2]]:=kN _ _
   have hmb:mC (b++[x])=mC b++[[AV.sl false (aE x.1),AV.int .i64 x.2]]:=kN _ _
   have hla:(mC a++[[AV.sl false (aE x.1),AV.int .i64 x.2]]).length - 1=(mC a).length:=by simp
   have hlb:(mC b++[[AV.sl false (aE x.1),AV.int .i64 x.2]]).length - 1=(mC b).length:=by simp
   cases hgg:g i with
   |true=>
    rw [hgg] at hgi hA2 hB2
    simp only [if_true,Bool.true_eq_false,if_false,List.append_nil] at hA2 hB2
    repeat' (first|(refine u'S ?_;simp only [wS,simprocAttr,gx,hA,c1,e3,eu,e0,hgi,Bool.not_true,Bool.not_false,↓aM,↓aF])|refine u'Q fun _ _=>?_|refine aO ?_|refine aP (fun hg=>?_) fun hg=>?_|refine u'G ?_|refine b8 (v':=(mC a).length) (es:=[[AV.sl false (aE x.1),AV.int .i64 x.2]]) (by':=32) (by kernel_rfl) u'p hva ha2 (by simp [cJ]) (by simp) (by simp only [List.length_cons,List.length_nil];omega) (u'T ?_))
    refine hK.go ⟨i+1,hlt⟩ (Weak.ref ⟨?_,.inr ⟨by first|exact Nat.zero_le _|exact Nat.le_refl _|simp,?_,fun g cs hg=>aD (hG0 g cs hg),?_,?_⟩⟩) (by simp only;omega)
    ·simp only [wS,simprocAttr,↓aM,↓aF];try exact rfl
    ·simp only [wS,simprocAttr,hA2,hB2,hma,hla];try exact rfl
    ·intro z hz
     simp only [List.mem_cons,List.not_mem_nil,or_false] at hz
     rcases hz with rfl|rfl|rfl|rfl|rfl|rfl|rfl|rfl|rfl|rfl<;>first|rfl|(simp only [inR];exact aA hto)
    ·simp only [List.all_cons,List.all_nil,Bool.and_true,Bool.and_eq_true];try exact ⟨aD (by simp only [inL,inR,htc,Bool.and_self]),aD (by simp only [inL,inR,ht,Bool.and_self]),aD (by simp only [inL,inR,htw,Bool.and_self]),by simp only [aG,inL,Bool.and_true];exact cH rfl,by simp only [aG,inL,Bool.and_true];exact cH rfl,bQ (aA (cK _)),bQ (aA (cK _))⟩
   |false=>
    rw [hgg] at hgi hA2 hB2
    simp only [if_true,Bool.false_eq_true,if_false,List.append_nil] at hA2 hB2
    repeat' (first|(refine u'S ?_;simp only [wS,simprocAttr,gx,hA,c1,e3,eu,e0,hgi,Bool.not_true,Bool.not_false,↓aM,↓aF])|refine u'Q fun _ _=>?_|refine aO ?_|refine aP (fun hg=>?_) fun hg=>?_|refine u'G ?_|refine b8 (v':=(mC b).length) (es:=[[AV.sl false (aE x.1),AV.int .i64 x.2]]) (by':=32) (by kernel_rfl) u'p hvb hb2 (by simp [cJ]) (by simp) (by simp only [List.length_cons,List.length_nil];omega) (u'T ?_))
    refine hK.go ⟨i+1,hlt⟩ (Weak.ref ⟨?_,.inr ⟨by first|exact Nat.zero_le _|exact Nat.le_refl _|simp,?_,fun g cs hg=>aD (hG0 g cs hg),?_,?_⟩⟩) (by simp only;omega)
    ·simp only [wS,simprocAttr,↓aM,↓aF];try exact rfl
    ·simp only [wS,simprocAttr,hA2,hB2,hmb,hlb];try exact rfl
    ·intro z hz
     simp only [List.mem_cons,List.not_mem_nil,or_false] at hz
     rcases hz with rfl|rfl|rfl|rfl|rfl|rfl|rfl|rfl|rfl|rfl<;>first|rfl|(simp only [inR];exact aA hto)
    ·simp only [List.all_cons,List.all_nil,Bool.and_true,Bool.and_eq_true];try exact ⟨aD (by simp only [inL,inR,htc,Bool.and_self]),aD (by simp only [inL,inR,ht,Bool.and_self]),aD (by simp only [inL,inR,htw,Bool.and_self]),by simp only [aG,inL,Bool.and_true];exact cH rfl,by simp only [aG,inL,Bool.and_true];exact cH rfl,bQ (aA (cK _)),bQ (aA (cK _))⟩
  ·have c1:decide (((i:Nat):Int)<((MC.length:Nat):Int))=false:=by simp;omega
   obtain rfl:i=M.length:=by omega
   rw [List.take_length]
   have hat:=cK (eD g true 0 M)
   have hbt:=cK (eD g false 0 M)
   have ha2:=oI (eD g true 0 M)
   have hb2:=oI (eD g false 0 M)
   generalize mC (eD g true 0 M)=A at hat ha2 kma ⊢
   generalize mC (eD g false 0 M)=B at hbt hb2 kmb ⊢
   have e0:((0:Int) != 0)=false:=rfl
   refine eH (bN [5,6] (kp [0,1,2,3,4]) (l:=[(8,.bool false),(9,.ptr 0 0 0),(10,.sl false OL),(11,.ptr 1 0 0),(12,.ptr 2 0 0),(13,.int .i64 0),(14,.ptr 3 0 0),(15,.ptr 4 0 0),(16,.int .i64 (M.length:Nat))]) (h:=[.cells 0 [.int .i64 ca,.int .i64 cb,.int .i64 cc,.sl false cd],.cells 0 [.sl false MC],.cells 0 [.int .i64 wa,.int .i64 wb,.int .i64 wc,.sl false wd],.cells 0 [.sl false A],.cells 0 [.sl false B]]) hG0 (fun r hr=>absurd hr (Nat.not_lt_zero r)) ?_ ?_ ?_) ?_
   ·simp only [wS,simprocAttr,cS,Frz,and_true,true_or]
   ·simp only [List.all_cons,List.all_nil,inR,aA hto,Bool.and_true,Bool.true_and]
    rfl
   ·simp only [wS,simprocAttr,↓aM,↓aF]
    simp only [ToH,and_true]
    exact ⟨kr rfl (aD (by simp only [inL,inR,htc,Bool.and_self])) (by simp),kr rfl (aD (by simp only [inL,inR,ht,Bool.and_self])) (by simp),kr rfl (aD (by simp only [inL,inR,htw,Bool.and_self])) (by simp),.inr ⟨rfl,aD (by simp only [inL,inR,hat,Bool.and_self]),.inr ⟨.inl (by simp),.inr ⟨0,_,_,rfl,rfl,.inr (fB (v:=A.length - 1) u'p (by simp) ha2 hat),trivial⟩⟩⟩,.inr ⟨rfl,aD (by simp only [inL,inR,hbt,Bool.and_self]),.inr ⟨.inl (by simp),.inr ⟨0,_,_,rfl,rfl,.inr (fB (v:=B.length - 1) u'p (by simp) hb2 hbt),trivial⟩⟩⟩,rfl,rfl⟩
   ·repeat' (first|(refine u'S ?_;simp only [wS,simprocAttr,c1,Bool.not_true,Bool.not_false,e0])|refine u'Q fun _ _=>?_|refine aO ?_|refine aP (fun hg=>?_) fun hg=>?_|refine u'G ?_|fail)
    refine aJ (α:={i:Nat // i≤M.length}) (fun i=>[(8,.bool false),(9,.ptr 0 0 0),(10,.sl false OL),(11,.ptr 1 0 0),(12,.ptr 2 0 0),(21,.ptr 7 0 0),(22,.int .i64 (i.1:Nat))]) (fun i=>[.cells 0 [.int .i64 ca,.int .i64 cb,.int .i64 cc,.sl false cd],.cells 0 [.sl false MC],.cells 0 [.int .i64 wa,.int .i64 wb,.int .i64 wc,.sl false wd],.cells 0 [.sl false A],.cells 0 [.sl false B],.cells 0 [.int .i64 ha,.int .i64 hb,.int .i64 hc,.sl false hd],.cells 0 [.int .i64 wa,.int .i64 wb,.int .i64 wc,.sl false wd],.cells 0 [.int .i64 (bk i.1).1,.int .i64 (bk i.1).2.1,.int .i64 (bk i.1).2.2.1,.sl false (bk i.1).2.2.2]]) (fun i=>M.length - i.1) ⟨0,Nat.zero_le _⟩ (Weak.ref ⟨?_,.inl ?_⟩) ?_
    ·exact u'p
    ·simp only [wS,simprocAttr,hb0];try exact rfl
    ·rintro ⟨i,hi⟩ K hK
     try simp only at hi
     have hti:=htb i
     by_cases hlt:i<M.length
     ·have c1:decide (((i:Nat):Int)<((MC.length:Nat):Int))=true:=by simp;omega
      have hA:i<MC.length:=by omega
      have e3:=aL (k:=i) hlt (by omega)
      have e0:((0:Int) != 0)=false:=rfl
      obtain ⟨ix,j,onm,ofa,ofb,ofc,opa,opb,opc,oob,ofd,opd,na,nb,nc,ua,ub,uc,nd,ud,gx,go,k1,k2,k3,k4,k5⟩:=hrd i hlt
      have hj:j<OL.length:=(List.getElem?_eq_some_iff.1 go).1
      have htz:=htb (i+1)
      simp only [bkV] at k5
      repeat' (first|(refine u'S ?_;simp only [wS,simprocAttr,gx,go,hj,hA,c1,e3,e0,Bool.not_true,Bool.not_false])|refine u'Q fun _ _=>?_|refine aO ?_|refine aP (fun hg=>?_) fun hg=>?_|refine u'G ?_|fail)
      refine hK.go ⟨i+1,hlt⟩ (Weak.ref ⟨?_,.inr ⟨by first|exact Nat.zero_le _|exact Nat.le_refl _|simp,?_,fun g cs hg=>aD (hG0 g cs hg),?_,?_⟩⟩) (by simp only;omega)
      ·exact u'p
      ·exact u'p
      ·intro z hz
       simp only [List.mem_cons,List.not_mem_nil,or_false] at hz
       rcases hz with rfl|rfl|rfl|rfl|rfl|rfl|rfl<;>first|rfl|(simp only [inR];exact aA hto)
      ·simp only [List.all_cons,List.all_nil,Bool.and_true,Bool.and_eq_true];try exact ⟨aD (by simp only [inL,inR,htc,Bool.and_self]),aD (by simp only [inL,inR,ht,Bool.and_self]),aD (by simp only [inL,inR,htw,Bool.and_self]),aD (by simp only [inL,inR,hat,Bool.and_self]),aD (by simp only [inL,inR,hbt,Bool.and_self]),aD (by simp only [inL,inR,hth,Bool.and_self]),aD (by simp only [inL,inR,htw,Bool.and_self]),aD (by simp only [inL,inR,htz,Bool.and_self])⟩
     ·have c1:decide (((i:Nat):Int)<((MC.length:Nat):Int))=false:=by simp;omega
      obtain rfl:i=M.length:=by omega
      rw [hbn]
      have e0:((0:Int)==0)=true:=rfl
      repeat' (first|(refine u'S ?_;simp only [wS,simprocAttr,c1,e0])|refine u'Q fun _ _=>?_|refine aO ?_|refine aP (fun hg=>?_) fun hg=>?_|refine u'G ?_|fail)
      refine aB rfl ?_
      simp only [wS,simprocAttr]
theorem n8 (g:Nat→Bool):∀ (i:Nat) {M:List Si},apM M→∀ a∈eD g true i M,∀ b∈eD g false i M,apI a.1 b.1
 |_,[],_,a,ha,_,_=>by cases ha
 |i,s::M,h,a,ha,b,hb=>by
  obtain ⟨h1,h2⟩:=mU h
  rw [eD] at ha hb
  cases hg:g i with
  |true=>
   rw [hg] at ha hb
   simp only [if_true,Bool.true_eq_false,if_false,List.mem_cons] at ha hb
   rcases ha with rfl|ha
   ·exact (h1 b (gG g false _ M b hb)).symm
   ·exact n8 g _ h2 a ha b hb
  |false=>
   rw [hg] at ha hb
   simp only [if_true,Bool.false_eq_true,if_false,List.mem_cons] at ha hb
   rcases hb with rfl|hb
   ·exact h1 a (gG g true _ M a ha)
   ·exact n8 g _ h2 a ha b hb
theorem HY {c d:T} {O:List OpT} {s:Si} (h:T.sub c s.1=T.sub d s.1):eU c O s=eU d O s:=by rw [eU,eU,h]
def bkT (t:T):BkT:=(t.kind,t.num,t.low,T.encs t.kids)
theorem OT (t:T):bkV (bkT t)=.agg (T.enc t):=by cases t;rfl
theorem LQ {t:T} {a b c:Int} {d:List (List AV)} (h:T.enc t=[.int .i64 a,.int .i64 b,.int .i64 c,.sl false d]):bkT t=(a,b,c,d):=by
 cases t
 simp only [T.enc,List.cons.injEq,AV.int.injEq,AV.sl.injEq,true_and,and_true] at h
 obtain ⟨rfl,rfl,rfl,rfl⟩:=h
 rfl
theorem LP (t:T):inE aC (bkT t).2.2.2=true:=T.encs_tree _
theorem EA (t:T):T.cmp t t=0:=(T.cmp_zero t t).2 rfl
structure SitesOf (c:T) (O:List OpT) (M:List Si) (f nd:Si→T):Prop where
 ap:apM M
 len:M.length≤3
 st:∀ s∈M,eU c O s=some (f s)
 sb:∀ s∈M,T.sub c s.1=some (nd s)
 sz:∀ s∈M,T.size (f s)≤32*T.size (nd s)
 pl:∀ s∈M,s.1.length≤16000000000
theorem SitesOf.size {c:T} {O:List OpT} {M:List Si} {f nd:Si→T} (h:SitesOf c O M f nd) (hc:T.size c≤16000000000):T.size (dF f c M)≤600000000000:=by
 have h1:=qG (f:=f) h.ap h.sb
 have h2:=JC (k:=32) h.sz
 have h3:=MH h.ap h.sb
 have h4:=h.len
 omega
theorem SitesOf.make {c:T} {O:List OpT} {M:List Si} {f nd:Si→T} (h:SitesOf c O M f nd) (hc:T.size c≤16000000000) (hO:∀ o∈O,OpB o) (d:T) (hd:T.size d≤600000000000) (hs:∀ s∈M,T.sub d s.1=T.sub c s.1):
  Pure Tryz.prog G0 13 [.agg (T.enc d),.sl false (O.map opC),.agg [.sl false (mC M)]] (.tup [.agg (T.enc (dF f d M)),.int .i64 0]):=by
 have h3:=h.len
 have k:=GY d hd O hO M (by omega) (fun s hs=>Nat.le_trans (h.pl s hs) (by decide)) fun s hs' n hn=>by
  rw [hs s hs'] at hn
  exact Nat.le_trans (T.sub_size hn) hc
 rw [jS,if_pos (QO h.ap h3),x6 (f:=f) d (fun s hs'=>by rw [HY (hs s hs')];exact h.st s hs')] at k
 exact k
theorem SitesOf.part {c:T} {O:List OpT} {M A:List Si} {f nd:Si→T} (h:SitesOf c O M f nd) (ha:apM A) (hm:∀ s∈A,s∈M) (hl:A.length≤M.length):SitesOf c O A f nd:=
 ⟨ha,Nat.le_trans hl h.len,fun s hs=>h.st s (hm s hs),fun s hs=>h.sb s (hm s hs),fun s hs=>h.sz s (hm s hs),fun s hs=>h.pl s (hm s hs)⟩
theorem MS {c:T} {O:List OpT} {M:List Si} (hc:T.size c≤16000000000) (hap:dE M=true) (hMs:∀ s∈M,∃ x∈dJ c O,s=siI x):SitesOf c O M (fun s=>(eU c O s).getD (.mk 0 0 0 [])) (fun s=>(T.sub c s.1).getD (.mk 0 0 0 [])):=by
 obtain ⟨h1,h2⟩:=QP hap
 refine ⟨h1,h2,fun s hs=>?_,fun s hs=>?_,fun s hs=>?_,fun s hs=>?_⟩
 ·obtain ⟨n,j,o,u,e1,e2,e3,e4,e5⟩:=m8 (hMs s hs)
  simp only [e5,Option.getD_some]
 ·obtain ⟨n,j,o,u,e1,e2,e3,e4,e5⟩:=m8 (hMs s hs)
  simp only [e2,Option.getD_some]
 ·obtain ⟨n,j,o,u,e1,e2,e3,e4,e5⟩:=m8 (hMs s hs)
  simp only [e2,e5,Option.getD_some]
  exact nM (T.size_pos n) (Nat.le_refl _) e4
 ·obtain ⟨x,hx,rfl⟩:=hMs s hs
  have:=n7 c O x hx
  show x.1.length≤_
  omega
theorem IJ {α:Type} {M:List α} {i:Nat} {s: α} (h:M[i]? =some s):M.drop i=s::M.drop (i+1):=by
 obtain ⟨q1,q2⟩:=List.getElem?_eq_some_iff.1 h
 rw [List.drop_eq_getElem_cons q1,q2]
theorem SitesOf.drop {c:T} {O:List OpT} {M:List Si} {f nd:Si→T} (h:SitesOf c O M f nd) (i:Nat):SitesOf c O (M.drop i) f nd:=
 h.part (h.ap.drop) (fun _ hs=>List.mem_of_mem_drop hs) (by rw [List.length_drop];omega)
theorem O2 {c:T} {O:List OpT} {M:List Si} {f nd:Si→T} (h:SitesOf c O M f nd) (hc:T.size c≤16000000000) (hO:∀ o∈O,OpB o) (hMs:∀ s∈M,∃ x∈dJ c O,s=siI x) (i:Nat) (hi:i<M.length):
  HT (.agg (T.enc c)) (.agg (T.enc (dF f c M))) (O.map opC) (mC M) (bkT (dF f c (M.drop i))) (bkT (dF f c (M.drop (i+1)))) i:=by
 obtain ⟨s,hs⟩:∃ s,M[i]? =some s:=⟨_,List.getElem?_eq_getElem hi⟩
 have hsm:=List.mem_of_getElem? hs
 obtain ⟨n,j,o,u,e1,e2,e3,e4,e5⟩:=m8 (hMs s hsm)
 have hu:f s=u:=Option.some.inj ((h.st s hsm).symm.trans e5)
 have hp:=h.pl s hsm
 have hw:=h.size hc
 have hy:=(h.drop i).size hc
 have hn:=T.sub_size e2
 have hus:=h.sz s hsm
 have hnn:nd s=n:=Option.some.inj ((h.sb s hsm).symm.trans e2)
 rw [hu,hnn] at hus
 have hdr:=IJ hs
 have had:=(h.drop i).ap
 have k1:=v7 c s.1 (by omega) (by omega)
 rw [e2] at k1
 have k2:=v7 (dF f c M) s.1 (by omega) (by omega)
 rw [zS (c:=c) h.ap (fun y hy=>⟨_,h.sb y hy⟩) s hsm,hu] at k2
 have hom:=hO o (List.mem_of_getElem? e3)
 have k3:=BM o.1 o.2.1 o.2.2.1 o.2.2.2 (Nat.le_trans hom.1 (by decide)) (Nat.le_trans hom.2 (by decide)) n (by omega)
 rw [show T.app o.1 o.2.1 o.2.2.1 o.2.2.2 n=some u from e4] at k3
 have k4:=sX _ u u (Nat.le_refl _) (by omega)
 rw [EA] at k4
 have k5:=J6 (dF f c (M.drop i)) n (f s) s.1 (by omega) (by omega) (by omega) (zS (c:=c) had (fun y hy=>⟨_,(h.drop i).sb y hy⟩) s (by rw [hdr];simp))
 rw [show T.set (dF f c (M.drop i)) s.1 n=dF f c (M.drop (i+1)) by rw [hdr] at had ⊢;exact I2 had e2,← OT (dF f c (M.drop i)),← OT (dF f c (M.drop (i+1)))] at k5
 have go:(O.map opC)[j]? =some (opC o):=by rw [List.getElem?_map,e3];rfl
 obtain ⟨onm,of',op,oob⟩:=o
 obtain ⟨ofa,ofb,ofc,ofd,hfe⟩:=aI of'
 obtain ⟨opa,opb,opc,opd,hpe⟩:=aI op
 simp only [opC,opE,hfe,hpe,List.cons_append,List.nil_append] at go k3
 obtain ⟨na,nb,nc,nd',hne⟩:=aI n
 obtain ⟨ua,ub,uc,ud',hue⟩:=aI u
 simp only [fJ] at k1 k2 k3
 rw [hne] at k1 k3 k5
 rw [hue] at k2 k3 k4
 have gx:=jG hs
 rw [e1] at gx
 exact ⟨_,j,_,_,_,_,_,_,_,_,_,_,_,_,_,_,_,_,_,_,gx,go,k1,k2,k3,k4,k5⟩
theorem rV (l m n:List Int) (bits:Int) (hl:∀ x∈l,cI x) (hm:∀ x∈m,cI x) (hn:∀ x∈n,cI x) (hb:cI bits):Pure Tryz.prog G0 6 [b9 l,b9 m,b9 n,.int .i64 bits] (.bool true):=by
 obtain ⟨c,O,klab,hc,hO7,hOB,_⟩:=OP l m hl hm
 obtain ⟨M,kM,hM5,hap,hMs⟩:=DD c hc O hOB (by omega) n hn
 have h:=MS hc hap hMs
 generalize (fun s=>(eU c O s).getD (.mk 0 0 0 []))=f at h
 generalize (fun s:Si=>(T.sub c s.1).getD (.mk 0 0 0 []))=nd at h
 obtain ⟨g,hg⟩:∃ g:Nat→Bool,g=fun i=>(((jJ bits 8).fdiv (2 ^ min i IntKind.i64.bits)).tmod 2==1):=⟨_,rfl⟩
 have hA:=h.part (sD g true 0 h.ap) (gG g true 0 M) (lS g true 0 M)
 have hB:=h.part (sD g false 0 h.ap) (gG g false 0 M) (lS g false 0 M)
 have hW:=h.size hc
 have kmk:=h.make hc hOB c (by omega) fun _ _=>rfl
 have kma:=hA.make hc hOB c (by omega) fun _ _=>rfl
 have kmb:=hB.make hc hOB (dF f c (eD g true 0 M)) (hA.size hc) fun s hs=>tK f c fun a ha=>n8 g 0 h.ap a ha s hs
 rw [tL f g 0 c h.ap] at kmb
 have kcw:=sX _ (dF f c M) (dF f c M) (Nat.le_refl _) (by omega)
 have kcc:=sX _ c c (Nat.le_refl _) (by omega)
 rw [EA] at kcw kcc
 have hrd:=O2 h hc hOB hMs
 have hb0:bkT (dF f c (M.drop 0))=bkT (dF f c M):=rfl
 have hbn:bkT (dF f c (M.drop M.length))=bkT c:=by rw [List.drop_length,dF]
 have htc:=T.enc_tree c
 have htw:=T.enc_tree (dF f c M)
 have hth:=T.enc_tree (dF f c (eD g true 0 M))
 obtain ⟨ca,cb,cc,cd,hce⟩:=aI c
 obtain ⟨wa,wb,wc,wd,hwe⟩:=aI (dF f c M)
 obtain ⟨ha,hb',hc',hd,hhe⟩:=aI (dF f c (eD g true 0 M))
 rw [LQ hwe] at hb0
 rw [LQ hce] at hbn
 rw [hce] at klab kM kmk kma kcc htc hrd
 rw [hwe] at kmk kmb kcw htw hrd
 rw [hhe] at kma kmb hth
 simp only [mV] at kM
 have U:∀ {x y z:Int} {w:List (List AV)},inL aC [AV.int .i64 x,.int .i64 y,.int .i64 z,.sl false w]=true→inE aC w=true:=fun h=>by simpa only [inL,inR,Bool.and_true,Bool.true_and] using h
 exact O0 DK l m n bits (jJ bits 8) ca cb cc wa wb wc ha hb' hc' cd wd hd (O.map opC) M g (fun i=>bkT (dF f c (M.drop i))) h.len (fun i _=>by rw [hg]) (U htc) (U htw) (U hth) (eI O) (fun _=>LP _) hb0 hbn klab kM kmk kma kmb kcw kcc (qU bits 8 hb (by decide)) hrd
end Go.Proofs.YtggflhbigolakaaGreatDoor
