import Derived.Test.YtggflhbigolakaaGreatDoorHD
import Derived.Test.YtggflhbigolakaaGreatDoorSN
import Derived.Test.YtggflhbigolakaaGreatDoorVA
set_option linter.unusedVariables false
set_option linter.unusedSimpArgs false
namespace Go.Proofs.YtggflhbigolakaaGreatDoor
open Go.AM
attribute [local irreducible] AWp aY bC bI bU bW aN aS bL
set_option maxRecDepth 100000
abbrev Si:=List Int × Int
def iW:List Int→List Int→Bool
 | [],_=>true
 |_::_,[]=>false
 |x::a,y::b=>x==y&&iW a b
def ltI:List Int→List Int→Bool
 |x::a,y::b=>decide (x<y) || (x==y&&ltI a b)
 |_,_=>false
theorem vN (x y:Int):(x<y∧cW x y= -1)∨(x=y∧cW x y=0)∨(y<x∧cW x y=1):=by
 rcases Int.lt_trichotomy x y with h|rfl|h
 ·exact .inl ⟨h,by rw [cW,if_pos h]⟩
 ·exact .inr (.inl ⟨rfl,qR x⟩)
 ·exact .inr (.inr ⟨h,by rw [cW,if_neg (by omega),if_pos h]⟩)
theorem H0:∀ a b:List Int,ltI a b=true↔(fE a b<0∧iW a b=false)
 | [],_=>by simp [ltI,iW]
 |_::_,[]=>by simp [ltI,fE]
 |x::a,y::b=>by
  rw [ltI,fE,iW]
  rcases vN x y with ⟨h,e⟩|⟨rfl,e⟩|⟨h,e⟩
  ·rw [e,if_pos (by decide)]
   have:(x==y)=false:=by simp;omega
   simp [h,this]
  ·rw [e,if_neg (by decide)]
   simp only [Int.lt_irrefl,decide_false,beq_self_eq_true,Bool.true_and,Bool.false_or]
   exact H0 a b
  ·rw [e,if_pos (by decide)]
   have:(x==y)=false:=by simp;omega
   have h2:¬ x<y:=by omega
   simp [h2,this]
theorem H3:∀ a b:List Int,fE a b=0→iW a b=true
 | [],_,_=>rfl
 |_::_,[],h=>by simp [fE] at h
 |x::a,y::b,h=>by
  rw [fE] at h
  rcases vN x y with ⟨g,e⟩|⟨rfl,e⟩|⟨g,e⟩
  ·rw [e,if_pos (by decide)] at h;cases h
  ·rw [e,if_neg (by decide)] at h
   rw [iW,H3 a b h];simp
  ·rw [e,if_pos (by decide)] at h;cases h
theorem HL (a b:Si):(decide (gV a b ≥ 0) || iW a.1 b.1)= !ltI a.1 b.1:=by
 have h:=H0 a.1 b.1
 have h0:=H3 a.1 b.1
 rw [gV]
 cases hp:iW a.1 b.1 with
 |true=>
  have:ltI a.1 b.1=false:=by
   cases hl:ltI a.1 b.1 with
   |false=>rfl
   |true=>have:=(h.1 hl).2;rw [hp] at this;cases this
  rw [this,Bool.or_true];rfl
 |false=>
  have hn:fE a.1 b.1≠0:=fun e=>by rw [h0 e] at hp;cases hp
  rw [if_pos hn,Bool.or_false]
  cases hl:ltI a.1 b.1 with
  |true=>have:=(h.1 hl).1;simp;omega
  |false=>
   have:¬ fE a.1 b.1<0:=fun g=>by rw [h.2 ⟨g,hp⟩] at hl;cases hl
   simp;omega
theorem mG {x y:Int} {a b:List Int}:ltI (x::a) (y::b)=true↔(x<y∨(x=y∧ltI a b=true)):=by simp [ltI]
theorem x7:∀ {a b c:List Int},ltI a b=true→ltI b c=true→ltI a c=true
 | [],_,_,h,_=>by simp [ltI] at h
 |_::_,[],_,h,_=>by simp [ltI] at h
 |_::_,_::_,[],_,h=>by simp [ltI] at h
 |x::a,y::b,z::c,h,g=>by
  rw [mG] at h g ⊢
  rcases h with h|⟨rfl,h⟩
  ·rcases g with g|⟨rfl,g⟩
   ·exact .inl (by omega)
   ·exact .inl h
  ·rcases g with g|⟨rfl,g⟩
   ·exact .inl g
   ·exact .inr ⟨rfl,x7 h g⟩
theorem GZ:∀ {a b:List Int},ltI a b=true→iW b a=false
 | [],_,h=>by simp [ltI] at h
 |_::_,[],h=>by simp [ltI] at h
 |x::a,y::b,h=>by
  rw [mG] at h
  rw [iW]
  rcases h with h|⟨rfl,h⟩
  ·have:(y==x)=false:=by simp;omega
   rw [this];rfl
  ·rw [GZ h,Bool.and_false]
def jR:List (List Int)→Bool
 | []=>true
 |a::l=>l.all (ltI a)&&jR l
theorem xR:∀ {l:List (List Int)},jR l=true→∀ {i j:Nat} {a b:List Int},i<j→l[i]? =some a→l[j]? =some b→ltI a b=true
 | [],_,i,j,a,b,_,hi,_=>by simp at hi
 |x::l,h,0,j+1,a,b,_,hi,hj=>by
  simp only [jR,Bool.and_eq_true] at h
  obtain rfl:x=a:=by simpa using hi
  exact List.all_eq_true.1 h.1 b (List.mem_of_getElem? (by simpa using hj))
 |x::l,h,i+1,j+1,a,b,hij,hi,hj=>by
  simp only [jR,Bool.and_eq_true] at h
  exact xR h.2 (i:=i) (j:=j) (by omega) (by simpa using hi) (by simpa using hj)
theorem D6:∀ {l:List (List Int)},(∀ (i:Nat) (a b:List Int),l[i]? =some a→l[i+1]? =some b→ltI a b=true)→jR l=true
 | [],_=>rfl
 |x::l,h=>by
  have ih:jR l=true:=D6 fun i a b hi hj=>h (i+1) a b (by simpa using hi) (by simpa using hj)
  simp only [jR,ih,Bool.and_true]
  cases l with
  |nil=>rfl
  |cons y l=>
   have hxy:=h 0 x y rfl rfl
   refine List.all_eq_true.2 fun z hz=>?_
   rcases List.mem_cons.1 hz with rfl|hz
   ·exact hxy
   ·simp only [jR,Bool.and_eq_true] at ih
    exact x7 hxy (List.all_eq_true.1 ih.1 z hz)
def dE (M:List Si):Bool:=jR (M.map Prod.fst)&&decide (M.length≤3)
theorem oN {M:List Si} (h:dE M=true):∀ {i j:Nat} {a b:Si},i<j→M[i]? =some a→M[j]? =some b→ltI a.1 b.1=true:=fun {i j a b} hij hi hj=>by
 simp only [dE,Bool.and_eq_true] at h
 exact xR h.1 hij (by rw [List.getElem?_map,hi];rfl) (by rw [List.getElem?_map,hj];rfl)
theorem ET {M:List Si} {i j:Nat} {a b:Si} (hij:i<j) (hi:M[i]? =some a) (hj:M[j]? =some b) (h:ltI a.1 b.1=false):dE M=false:=by
 cases hA:dE M with
 |false=>rfl
 |true=>have:=oN hA hij hi hj;rw [h] at this;cases this
theorem zD {M:List Si} (h:∀ (i:Nat) (a b:Si),M[i]? =some a→M[i+1]? =some b→ltI a.1 b.1=true):dE M=decide (M.length≤3):=by
 rw [dE,D6,Bool.true_and]
 intro i a b hi hj
 rw [List.getElem?_map] at hi hj
 obtain ⟨a',ha,rfl⟩:=Option.map_eq_some_iff.1 hi
 obtain ⟨b',hb,rfl⟩:=Option.map_eq_some_iff.1 hj
 exact h i a' b' ha hb
def T.set:T→List Int→T→T
 |_,[],x=>x
 |t,i::p,x=>if 0≤i then (match t.kids[i.toNat]? with
  |some e=>.mk t.kind t.num t.low (t.kids.set i.toNat (T.set e p x))
  |none=>t) else t
theorem T.set_cons {k n m:Int} {es:List T} {j:Nat} {e:T} (p:List Int) (x:T) (h:es[j]? =some e):T.set (.mk k n m es) ((j:Int)::p) x=.mk k n m (es.set j (T.set e p x)):=by
 rw [T.set,if_pos (by omega)]
 simp only [T.kids,Int.toNat_natCast,h,T.kind,T.num,T.low]
theorem T.sub_cons {k n m:Int} {es:List T} {j:Nat} {e:T} (p:List Int) (h:es[j]? =some e):T.sub (.mk k n m es) ((j:Int)::p)=T.sub e p:=by
 rw [T.sub,if_pos (by omega)]
 simp only [T.kids,Int.toNat_natCast,h]
theorem T.sub_some {t t':T} {i:Int} {p:List Int} (h:T.sub t (i::p)=some t'):∃ (j:Nat) (k n m:Int) (es:List T) (e:T),i=j∧t=.mk k n m es∧es[j]? =some e∧T.sub e p=some t':=by
 obtain ⟨k,n,m,es⟩:=t
 rw [T.sub] at h
 split at h
 ·rename_i hi
  split at h
  ·rename_i e he
   exact ⟨i.toNat,k,n,m,es,e,by omega,rfl,he,h⟩
  ·cases h
 ·cases h
theorem T.sub_set:∀ {a b:List Int} (t x:T),ltI a b=true→T.sub (T.set t a x) b=T.sub t b
 | [],_,_,_,h=>by simp [ltI] at h
 |_::_,[],_,_,h=>by simp [ltI] at h
 | i :: a, j :: b, .mk k n m es, x, h => by
  rw [mG] at h
  by_cases hi:0≤i
  ·obtain ⟨i,rfl⟩:∃ n:Nat,i=n:=⟨i.toNat,by omega⟩
   cases he:es[i]? with
   |none=>rw [T.set,if_pos (by omega)];simp only [T.kids,Int.toNat_natCast,he]
   |some e=>
    rw [T.set_cons a x he]
    by_cases hj:0≤j
    ·obtain ⟨j,rfl⟩:∃ n:Nat,j=n:=⟨j.toNat,by omega⟩
     rw [T.sub,T.sub,if_pos (by omega),if_pos (by omega)]
     simp only [T.kids,Int.toNat_natCast]
     by_cases hij:i=j
     ·subst hij
      rw [List.getElem?_set_self (List.getElem?_eq_some_iff.1 he).1,he]
      exact T.sub_set e x (by rcases h with h|⟨_,h⟩;(exact absurd h (by omega));exact h)
     ·rw [List.getElem?_set_ne hij]
    ·rw [T.sub,T.sub,if_neg (by omega),if_neg (by omega)]
  ·rw [T.set,if_neg hi]
theorem T.set_size:∀ {p:List Int} {t t':T} (x:T),T.sub t p=some t'→T.size (T.set t p x)+T.size t'=T.size t+T.size x
 | [],t,t',x,h=>by
  rw [T.sub] at h
  cases h
  rw [T.set];omega
 |i::p,t,t',x,h=>by
  obtain ⟨j,k,n,m,es,e,rfl,rfl,he,hs⟩:=T.sub_some h
  rw [T.set_cons p x he]
  have h1:=T.set_size x hs
  have h2:=T.sizes_set (u:=T.set e p x) he
  simp only [T.size];omega
set_option maxHeartbeats 8000000 in
theorem PJ : ∀ (p : List Int) (b : Bool) (t x t' : T), p.length ≤ 2000000000000 → T.wd t → T.sub t p = some t' → Pure Tryz.prog G0 44 [.agg (T.enc t), .sl b (aE p), .agg (T.enc x)] (.tup [.agg (T.enc (T.set t p x)), .int .i64 0]) := by
 intro p
 induction p with
 |nil=>
  intro b t x t' _ hsz _
  rw [T.set]
  have htr:=T.enc_tree t
  have hxt:=T.enc_tree x
  obtain ⟨ta,tb,tc,td,hee⟩:=aI t
  obtain ⟨xa,xb,xc,xd,hxx⟩:=aI x
  rw [hee] at htr
  rw [hxx] at hxt
  rw [hee,hxx]
  refine aQ hG0 Tryz.func44 rfl (by kernel_rfl) (by simp [Tryz.ntmps44]) (by simp only [inL,inR,Bool.and_true,Bool.true_and] at htr hxt ⊢;simp [htr,hxt,aE,inE]) (by simp only [inL,inR,Bool.and_true,Bool.true_and] at hxt ⊢;exact hxt) ?_
  simp only [Tryz.ntmps44,aH,Nat.reduceAdd,aE,List.map_nil]
  repeat' (first|(refine u'S ?_;simp only [wS,simprocAttr])|refine u'Q fun _ _=>?_|refine aV ?_|refine aR (fun hg=>?_) fun hg=>?_|fail)
  exact aX (v:=.agg [.int .i64 xa,.int .i64 xb,.int .i64 xc,.sl false xd]) rfl u'p u'p
 | cons z p ih =>
  intro b t x t' hl hsz h
  cases t with
  |mk k n m es=>
  simp only [T.sub] at h
  split at h
  ·rename_i hz
   split at h
   ·rename_i e he
    obtain ⟨j,rfl⟩:∃ j:Nat,z=j:=⟨z.toNat,(Int.toNat_of_nonneg hz).symm⟩
    simp only [Int.toNat_natCast,T.kids] at he
    have hwl:es.length≤2000000000000:=hsz.1
    simp only [List.length_cons] at hl
    have hu:=ih b e x t' (by omega) (T.wds_mem hsz.2 e (List.mem_of_getElem? he)) h
    rw [T.set_cons p x he]
    obtain ⟨u,hud⟩:∃ u,u=T.set e p x:=⟨_,rfl⟩
    rw [← hud] at hu ⊢
    obtain ⟨os,hos⟩:∃ l,l=es.set j u:=⟨_,rfl⟩
    rw [← hos]
    have htr:=T.enc_tree (.mk k n m es)
    have hto:=T.enc_tree (.mk k n m os)
    have hxt:=T.enc_tree x
    have hut:=T.enc_tree u
    have hip:inE aC (aE ((j:Int)::p))=true:=aW _
    have hol:os.length=es.length:=by rw [hos,List.length_set]
    have hlt:j<es.length:=(List.getElem?_eq_some_iff.1 he).1
    have hg:=T.encs_get he
    have hgt:=fun (i:Nat) (e:T)=>T.encs_get (es:=es) (i:=i) (e:=e)
    have hln:=T.encs_len es
    have hte:=T.encs_tree es
    obtain ⟨ea,eb,ec,ed,hee⟩:=aI e
    obtain ⟨ua,ub,uc,ud,huu⟩:=aI u
    obtain ⟨xa,xb,xc,xd,hxx⟩:=aI x
    have huE:=huu
    rw [hee] at hg hu
    rw [huu] at hu hut
    rw [hxx] at hu hxt ⊢
    refine aU hG0 Tryz.func44 rfl (by kernel_rfl) (by simp [Tryz.ntmps44]) (by simp only [inL,inR,htr,hip,Bool.and_true,Bool.true_and] at hxt ⊢;exact hxt) (by simp only [inR,inL,hto,Bool.and_self]) ?_
    simp only [Tryz.ntmps44,aH,Nat.reduceAdd,T.enc,aE,List.map_cons] at hip ⊢
    simp only [aE] at hu
    have hltE:j<(T.encs es).length:=by omega
    have e1:(((p.length+1:Nat):Int)==0)=false:=by simp;omega
    have e2:decide (((j:Nat):Int)<0)=false:=by simp
    have e3:decide (((j:Nat):Int) ≥ ((T.encs es).length:Int))=false:=by simp;omega
    generalize T.encs es=ME at hg hgt hln hte hltE e3
    have hsl:(p.map fun x=>[AV.int .i64 x]).all (fun e=>decide (e.length=1))=true:=by simp
    have htk0:(p.map fun x=>[AV.int .i64 x]).take p.length=p.map fun x=>[AV.int .i64 x]:=List.take_of_length_le (by simp)
    have hle:(p.length≤p.length)=True:=by simp
    have hpl:(p.map fun x=>[AV.int .i64 x]).length=p.length:=by simp
    have hip2:inE aC (p.map fun x=>[AV.int .i64 x])=true:=aW _
    generalize (p.map fun x=>[AV.int .i64 x])=IP at hu hip hsl htk0 hpl hip2
    rw [← hpl] at e1 htk0 hle
    have h00:((0:Int) != 0)=false:=rfl
    simp only [inL,inR,Bool.true_and,Bool.and_true] at hxt hut
    repeat' (first|(refine u'S ?_;simp only [wS,simprocAttr,e1,e2,e3,hg,hltE,List.length_cons,hle,if_true,hsl,htk0,Nat.add_sub_cancel,List.drop_succ_cons,List.drop_zero,decide_true,Bool.true_and,beq_self_eq_true,Bool.and_true])|refine u'Q fun _ _=>?_|refine aV ?_|refine aR (fun hg=>?_) fun hg=>?_|fail)
    refine bH hG0 hu ?_
    simp only [wS,simprocAttr]
    try refine ⟨by kernel_rfl,?_⟩
    clear e1 e2 e3 hg hltE hle hsl htk0
    repeat' (first|(refine u'S ?_;simp only [wS,simprocAttr,h00])|refine u'Q fun _ _=>?_|refine aV ?_|refine aR (fun hg=>?_) fun hg=>?_|fail)
    refine aJ (α:={i:Nat // i≤es.length}) (fun i=>[(1,.sl b ([.int .i64 (j:Nat)]::IP)),(3,.ptr 0 0 0),(6,.ptr 2 0 0),(7,.int .i64 0),(8,.ptr 3 0 0),(10,.ptr 4 0 0),(11,.int .i64 (i.1:Nat))]) (fun i=>[.cells 0 [.int .i64 k,.int .i64 n,.int .i64 m,.sl false ME],.cells 0 [.int .i64 xa,.int .i64 xb,.int .i64 xc,.sl false xd],.cells 0 [.int .i64 0,.int .i64 0,.int .i64 0,.sl true []],.cells 0 [.int .i64 ua,.int .i64 ub,.int .i64 uc,.sl false ud],.cells 0 [.int .i64 k,.int .i64 n,.int .i64 m,rv 5 (i.1 - 1) 4 (T.encs (os.take i.1))],rvR (i.1 - 1) (T.encs (os.take i.1))]) (fun i=>es.length - i.1) ⟨0,Nat.zero_le _⟩ (bN [] (kp [0,1,2,3,4,5]) hG0 (fun r hr=>absurd hr (Nat.not_lt_zero r)) ?_ ?_ ?_) ?_
    ·simp only [wS,simprocAttr,cS,Frz,and_true,true_or]
    ·simp only [List.all_cons,List.all_nil,Bool.and_true,Bool.and_eq_true,inR];exact ⟨aA hip,rfl,rfl,trivial,rfl,rfl⟩
    ·simp only [wS,simprocAttr,List.take_zero,T.encs,dS,dM]
     simp only [ToH,and_true]
     have keep:∀ (s:AS) (r:Nat) (y:ARow),iU s.row [] r y y:=fun s r y=>.inr ⟨.inl (by simp),.inl rfl⟩
     exact ⟨.inr ⟨rfl,by simp only [aG,inL,inR,aA hte,Bool.and_self],keep _ _ _⟩,.inr ⟨rfl,by simp only [aG,inL,inR,aA hxt,Bool.and_self],keep _ _ _⟩,.inr ⟨rfl,rfl,keep _ _ _⟩,.inr ⟨rfl,by simp only [aG,inL,inR,aA hut,Bool.and_self],keep _ _ _⟩,.inr ⟨rfl,rfl,.inr ⟨.inl (by simp),.inr ⟨0,_,_,rfl,rfl,.inl rfl,.inl rfl,.inl rfl,.inr .toRsv,trivial⟩⟩⟩⟩
    ·rintro ⟨i,hi⟩ K3 hK3
     try simp only at hi
     have hal:(T.encs (os.take i)).length=i:=by rw [T.encs_len,List.length_take];omega
     have hps:∀ e∈T.encs (os.take i),e.length=4:=fun e he=>by
      rw [T.encs_map] at he
      obtain ⟨y,_,rfl⟩:=List.mem_map.1 he
      exact T.enc_len y
     repeat' (first|(refine u'S ?_;simp only [wS,simprocAttr,↓aM,↓aF])|refine u'Q fun _ _=>?_|refine aV ?_|refine aR (fun hg=>?_) fun hg=>?_|fail)
     refine ⟨fun h=>?_,fun h=>?_⟩
     ·have hlt2:i<es.length:=by simpa [hln] using h
      have hltE:i<ME.length:=by omega
      have e3:=aL (k:=i) hlt2 (by omega)
      have hge:decide (((i:Nat):Int) ≥ ((ME.length:Nat):Int))=false:=by simp;omega
      have hvv:i=if T.encs (os.take i)=[] then 0 else i - 1+1:=by
       by_cases h0:T.encs (os.take i)=[]
       ·rw [if_pos h0];rw [h0] at hal;simpa using hal.symm
       ·rw [if_neg h0]
        have:i≠0:=fun hz=>h0 (by rw [hz];rfl)
        omega
      by_cases hij:i=j
      ·have eij:(((i:Nat):Int)==((j:Nat):Int))=true:=by simp [hij]
       have htk:T.encs (os.take (i+1))=T.encs (os.take i)++[[.int .i64 ua,.int .i64 ub,.int .i64 uc,.sl false ud]]:=by
        have:os[i]? =some u:=by rw [hos,hij,List.getElem?_set_self hlt]
        rw [T.encs_map,T.encs_map,eY this,huE]
       repeat' (first|(refine u'S ?_;simp only [wS,simprocAttr,eij,↓aM,↓aF])|refine u'Q fun _ _=>?_|refine aV ?_|refine aR (fun hg=>?_) fun hg=>?_|fail)
       refine b8 (v':=i) (es:=[[.int .i64 ua,.int .i64 ub,.int .i64 uc,.sl false ud]]) (by':=48) (by kernel_rfl) u'p hvv hps (by simp [cJ]) (by simp) (by rw [hal];simp only [List.length_singleton];omega) ?_
       simp only [wS,simprocAttr,↓aM,↓aF]
       try refine ⟨by kernel_rfl,?_⟩
       repeat' (first|(refine u'S ?_;simp only [wS,simprocAttr,e3,↓aM,↓aF])|refine u'Q fun _ _=>?_|refine aV ?_|refine aR (fun hg=>?_) fun hg=>?_|fail)
       refine hK3.go ⟨i+1,hlt2⟩ (Weak.ref ⟨?_,.inr ⟨Nat.zero_le _,?_,fun g cs hg=>aD (hG0 g cs hg),?_,?_⟩⟩) (by simp only;omega)
       ·exact u'p
       ·simp only [wS,simprocAttr,Nat.add_sub_cancel,htk];try exact rfl
       ·intro z hz
        simp only [List.mem_cons,List.not_mem_nil,or_false] at hz
        rcases hz with rfl|rfl|rfl|rfl|rfl|rfl|rfl<;>first|rfl|exact aA hip
       ·simp only [List.all_cons,List.all_nil,Bool.and_true,Bool.and_eq_true]
        exact ⟨by simp only [aG,inL,inR,aA hte,Bool.and_self],by simp only [aG,inL,inR,aA hxt,Bool.and_self],rfl,by simp only [aG,inL,inR,aA hut,Bool.and_self],by simp only [aG,inL,inR,Bool.true_and,Bool.and_true];exact cH rfl,bQ (aA (T.encs_tree _))⟩
      ·have eij:(((i:Nat):Int)==((j:Nat):Int))=false:=by simp;omega
       obtain ⟨e',he'⟩:∃ e,es[i]? =some e:=⟨_,List.getElem?_eq_getElem hlt2⟩
       have hg':=hgt i e' he'
       obtain ⟨ya,yb,yc,yd,hyy⟩:=aI e'
       have htk:T.encs (os.take (i+1))=T.encs (os.take i)++[[.int .i64 ya,.int .i64 yb,.int .i64 yc,.sl false yd]]:=by
        have:os[i]? =some e':=by rw [hos,List.getElem?_set_ne (fun h=>hij h.symm),he']
        rw [T.encs_map,T.encs_map,eY this,hyy]
       rw [hyy] at hg'
       repeat' (first|(refine u'S ?_;simp only [wS,simprocAttr,eij,hg',hltE,hge,↓aM,↓aF])|refine u'Q fun _ _=>?_|refine aV ?_|refine aR (fun hg=>?_) fun hg=>?_|fail)
       refine b8 (v':=i) (es:=[[.int .i64 ya,.int .i64 yb,.int .i64 yc,.sl false yd]]) (by':=48) (by kernel_rfl) u'p hvv hps (by simp [cJ]) (by simp) (by rw [hal];simp only [List.length_singleton];omega) ?_
       simp only [wS,simprocAttr,↓aM,↓aF]
       try refine ⟨by kernel_rfl,?_⟩
       repeat' (first|(refine u'S ?_;simp only [wS,simprocAttr,e3,↓aM,↓aF])|refine u'Q fun _ _=>?_|refine aV ?_|refine aR (fun hg=>?_) fun hg=>?_|fail)
       refine hK3.go ⟨i+1,hlt2⟩ (Weak.ref ⟨?_,.inr ⟨Nat.zero_le _,?_,fun g cs hg=>aD (hG0 g cs hg),?_,?_⟩⟩) (by simp only;omega)
       ·exact u'p
       ·simp only [wS,simprocAttr,Nat.add_sub_cancel,htk];try exact rfl
       ·intro z hz
        simp only [List.mem_cons,List.not_mem_nil,or_false] at hz
        rcases hz with rfl|rfl|rfl|rfl|rfl|rfl|rfl<;>first|rfl|exact aA hip
       ·simp only [List.all_cons,List.all_nil,Bool.and_true,Bool.and_eq_true]
        exact ⟨by simp only [aG,inL,inR,aA hte,Bool.and_self],by simp only [aG,inL,inR,aA hxt,Bool.and_self],rfl,by simp only [aG,inL,inR,aA hut,Bool.and_self],by simp only [aG,inL,inR,Bool.true_and,Bool.and_true];exact cH rfl,bQ (aA (T.encs_tree _))⟩
     ·have hge:i=es.length:=by simp [hln] at h;omega
      have hta:os.take i=os:=List.take_of_length_le (by omega)
      rw [hta] at hal hps
      repeat' (first|(refine u'S ?_;simp only [wS,simprocAttr,hta])|refine u'Q fun _ _=>?_|refine lM ?_|refine aR (fun hg=>?_) fun hg=>?_|fail)
      refine Cont.go (by assumption) (eH (bN [5] (kp [0,1,2,3,4]) (l:=[(6,.ptr 2 0 0),(7,.int .i64 0),(10,.ptr 4 0 0)]) (h:=[.cells 0 [.int .i64 k,.int .i64 n,.int .i64 m,.sl false ME],.cells 0 [.int .i64 xa,.int .i64 xb,.int .i64 xc,.sl false xd],.cells 0 [.int .i64 0,.int .i64 0,.int .i64 0,.sl true []],.cells 0 [.int .i64 ua,.int .i64 ub,.int .i64 uc,.sl false ud],.cells 0 [.int .i64 k,.int .i64 n,.int .i64 m,.sl false (T.encs os)]]) hG0 (fun r hr=>absurd hr (Nat.not_lt_zero r)) ?_ ?_ ?_) ?_)
      ·simp only [wS,simprocAttr,cS,Frz,and_true,true_or]
      ·rfl
      ·simp only [wS,simprocAttr,hta]
       simp only [ToH,and_true]
       have keep:∀ (s:AS) (r:Nat) (y:ARow),iU s.row [5] r y y→True:=fun _ _ _ _=>trivial
       exact ⟨.inr ⟨rfl,by simp only [aG,inL,inR,aA hte,Bool.and_self],.inr ⟨.inl (by simp),.inl rfl⟩⟩,.inr ⟨rfl,by simp only [aG,inL,inR,aA hxt,Bool.and_self],.inr ⟨.inl (by simp),.inl rfl⟩⟩,.inr ⟨rfl,rfl,.inr ⟨.inl (by simp),.inl rfl⟩⟩,.inr ⟨rfl,by simp only [aG,inL,inR,aA hut,Bool.and_self],.inr ⟨.inl (by simp),.inl rfl⟩⟩,.inr ⟨rfl,by simp only [aG,inL,inR,Bool.true_and,Bool.and_true];exact aA (T.encs_tree os),.inr ⟨.inl (by simp),.inr ⟨0,_,_,rfl,rfl,.inl rfl,.inl rfl,.inl rfl,.inr (fB (v:=i - 1) rfl (by simp) hps (T.encs_tree os)),trivial⟩⟩⟩,rfl⟩
      repeat' (first|(refine u'S ?_;simp only [wS,simprocAttr])|refine u'Q fun _ _=>?_|refine aV ?_|refine aR (fun hg=>?_) fun hg=>?_|fail)
      exact aX (v:=.agg [.int .i64 k,.int .i64 n,.int .i64 m,.sl false (T.encs os)]) rfl u'p (congrArg (fun z=>AV.tup [AV.agg z,AV.int .i64 0]) (T.wk_enc (.mk k n m os)))
   ·cases h
  ·cases h
theorem t1:∀ a b:List Int,a.length≤b.length→iW a b=decide (a=b.take a.length)
 | [],b,_=>by simp [iW]
 |_::_,[],h=>by simp at h
 |x::a,y::b,h=>by
  rw [iW,t1 a b (by simpa using h)]
  by_cases e:x=y
  ·simp [e]
  ·simp [e]
theorem t2:∀ a b:List Int,b.length<a.length→iW a b=false
 | [],b,h=>by simp at h
 |_::_,[],_=>rfl
 |x::a,y::b,h=>by rw [iW,t2 a b (by simpa using h),Bool.and_false]
set_option maxHeartbeats 4000000 in
theorem NN (a b:List Int) (ha:a.length≤1000000000000000):Pure Tryz.prog G0 75 [.sl false (aE a),.sl false (aE b)] (.bool (decide (a=b))):=by
 have h1t:inE aC (aE a)=true:=aW a
 have h2t:inE aC (aE b)=true:=aW b
 have hga:∀ (i:Nat) (x:Int),a[i]? =some x→(aE a)[i]? =some [.int .i64 x]:=fun i x h=>by simp [aE,h]
 have hgb:∀ (i:Nat) (x:Int),b[i]? =some x→(aE b)[i]? =some [.int .i64 x]:=fun i x h=>by simp [aE,h]
 have hna:(aE a).length=a.length:=by simp [aE]
 have hnb:(aE b).length=b.length:=by simp [aE]
 generalize aE a=A at h1t hga hna ⊢
 generalize aE b=B at h2t hgb hnb ⊢
 obtain ⟨V,hV⟩:∃ x,x=decide (a=b):=⟨_,rfl⟩
 rw [← hV]
 refine aQ hG0 Tryz.func75 rfl (by kernel_rfl) (by simp [Tryz.ntmps75]) (by simp only [inL,inR,h1t,h2t,Bool.and_self]) (by simp [inR]) ?_
 simp only [Tryz.ntmps75,aH,Nat.reduceAdd]
 by_cases hl:a.length=b.length
 ·have c0:(((A.length:Nat):Int) != ((B.length:Nat):Int))=false:=by simp;omega
  repeat' (first|(refine u'S ?_;simp only [wS,simprocAttr,c0])|refine u'Q fun _ _=>?_|refine aV ?_|refine aR (fun hg=>?_) fun hg=>?_|fail)
  refine aJ (α:={i:Nat // i≤a.length∧a.take i=b.take i}) (fun i=>[(0,.sl false A),(1,.sl false B),(12,.int .i64 (A.length:Nat)),(13,.int .i64 (i.1:Nat))]) (fun i=>[]) (fun i=>a.length - i.1) ⟨0,Nat.zero_le _,rfl⟩ (Weak.ref ⟨?_,.inl ?_⟩) ?_
  ·exact u'p
  ·exact u'p
  ·rintro ⟨i,hi,hti⟩ K hK
   try simp only at hi hti
   by_cases hlt:i<a.length
   ·have c1:decide (((i:Nat):Int)<((A.length:Nat):Int))=true:=by simp;omega
    obtain ⟨x,hx⟩:∃ x,a[i]? =some x:=⟨_,List.getElem?_eq_getElem hlt⟩
    obtain ⟨y,hy⟩:∃ y,b[i]? =some y:=⟨_,List.getElem?_eq_getElem (by omega)⟩
    have gx:=hga i x hx
    have gy:=hgb i y hy
    have hA:i<A.length:=by omega
    have hB:i<B.length:=by omega
    have e3:=aL (k:=i) hlt (by omega)
    by_cases hxy:x=y
    ·subst hxy
     have c3:(x != x)=false:=by simp
     have c4:(x==x)=true:=by simp
     repeat' (first|(refine u'S ?_;simp only [wS,simprocAttr,gx,gy,hA,hB,c1,c3,c4,e3,Bool.not_true,Bool.not_false])|refine u'Q fun _ _=>?_|refine aO ?_|refine aP (fun hg=>?_) fun hg=>?_|fail)
     refine hK.go ⟨i+1,hlt,by rw [List.take_add_one,List.take_add_one,hti,hx,hy]⟩ (Weak.ref ⟨?_,.inr ⟨by first|exact Nat.zero_le _|exact Nat.le_refl _|simp,?_,fun g cs hg=>aD (hG0 g cs hg),?_,?_⟩⟩) (by simp only;omega)
     ·exact u'p
     ·exact u'p
     ·intro z hz
      simp only [List.mem_cons,List.not_mem_nil,or_false] at hz
      rcases hz with rfl|rfl|rfl|rfl<;>first|rfl|(simp only [inR];first|exact aA h1t|exact aA h2t)
     ·simp only [List.all_cons,List.all_nil,Bool.and_true,Bool.and_eq_true];try exact rfl
    ·have c3:(x != y)=true:=by simp [hxy]
     have c4:(x==y)=false:=by simp [hxy]
     repeat' (first|(refine u'S ?_;simp only [wS,simprocAttr,gx,gy,hA,hB,c1,c3,c4,e3,Bool.not_true,Bool.not_false])|refine u'Q fun _ _=>?_|refine aO ?_|refine aP (fun hg=>?_) fun hg=>?_|fail)
     refine aB rfl ?_
     simp only [wS,simprocAttr]
     rw [hV,decide_eq_false]
     intro e
     rw [e,hy] at hx
     cases hx
     exact hxy rfl
   ·have c1:decide (((i:Nat):Int)<((A.length:Nat):Int))=false:=by simp;omega
    repeat' (first|(refine u'S ?_;simp only [wS,simprocAttr,c1])|refine u'Q fun _ _=>?_|refine aO ?_|refine aP (fun hg=>?_) fun hg=>?_|fail)
    refine aB rfl ?_
    simp only [wS,simprocAttr]
    rw [hV,decide_eq_true]
    rw [List.take_of_length_le (by omega),List.take_of_length_le (by omega)] at hti
    exact hti
 ·have c0:(((A.length:Nat):Int) != ((B.length:Nat):Int))=true:=by simp;omega
  repeat' (first|(refine u'S ?_;simp only [wS,simprocAttr,c0])|refine u'Q fun _ _=>?_|refine aO ?_|refine aP (fun hg=>?_) fun hg=>?_|fail)
  refine aB rfl ?_
  simp only [wS,simprocAttr]
  rw [hV,decide_eq_false]
  exact fun e=>hl (by rw [e])
set_option maxHeartbeats 4000000 in
theorem PD (a b:List Int) (ha:a.length≤1000000000000000):Pure Tryz.prog G0 107 [.sl false (aE a),.sl false (aE b)] (.bool (decide (a=b))):=by
 have h1t:inE aC (aE a)=true:=aW a
 have h2t:inE aC (aE b)=true:=aW b
 have hga:∀ (i:Nat) (x:Int),a[i]? =some x→(aE a)[i]? =some [.int .i64 x]:=fun i x h=>by simp [aE,h]
 have hgb:∀ (i:Nat) (x:Int),b[i]? =some x→(aE b)[i]? =some [.int .i64 x]:=fun i x h=>by simp [aE,h]
 have hna:(aE a).length=a.length:=by simp [aE]
 have hnb:(aE b).length=b.length:=by simp [aE]
 generalize aE a=A at h1t hga hna ⊢
 generalize aE b=B at h2t hgb hnb ⊢
 obtain ⟨V,hV⟩:∃ x,x=decide (a=b):=⟨_,rfl⟩
 rw [← hV]
 refine aQ hG0 Tryz.func107 rfl (by kernel_rfl) (by simp [Tryz.ntmps107]) (by simp only [inL,inR,h1t,h2t,Bool.and_self]) (by simp [inR]) ?_
 simp only [Tryz.ntmps107,aH,Nat.reduceAdd]
 by_cases hl:a.length=b.length
 ·have c0:(((A.length:Nat):Int) != ((B.length:Nat):Int))=false:=by simp;omega
  repeat' (first|(refine u'S ?_;simp only [wS,simprocAttr,c0])|refine u'Q fun _ _=>?_|refine aV ?_|refine aR (fun hg=>?_) fun hg=>?_|fail)
  refine aJ (α:={i:Nat // i≤a.length∧a.take i=b.take i}) (fun i=>[(0,.sl false A),(1,.sl false B),(5,.int .i64 (i.1:Nat))]) (fun i=>[]) (fun i=>a.length - i.1) ⟨0,Nat.zero_le _,rfl⟩ (Weak.ref ⟨?_,.inl ?_⟩) ?_
  ·exact u'p
  ·exact u'p
  ·rintro ⟨i,hi,hti⟩ K hK
   try simp only at hi hti
   by_cases hlt:i<a.length
   ·have c1:decide (((i:Nat):Int)<((A.length:Nat):Int))=true:=by simp;omega
    obtain ⟨x,hx⟩:∃ x,a[i]? =some x:=⟨_,List.getElem?_eq_getElem hlt⟩
    obtain ⟨y,hy⟩:∃ y,b[i]? =some y:=⟨_,List.getElem?_eq_getElem (by omega)⟩
    have gx:=hga i x hx
    have gy:=hgb i y hy
    have hA:i<A.length:=by omega
    have hB:i<B.length:=by omega
    have e3:=aL (k:=i) hlt (by omega)
    by_cases hxy:x=y
    ·subst hxy
     have c3:(x != x)=false:=by simp
     have c4:(x==x)=true:=by simp
     repeat' (first|(refine u'S ?_;simp only [wS,simprocAttr,gx,gy,hA,hB,c1,c3,c4,e3,Bool.not_true,Bool.not_false])|refine u'Q fun _ _=>?_|refine aO ?_|refine aP (fun hg=>?_) fun hg=>?_|fail)
     refine hK.go ⟨i+1,hlt,by rw [List.take_add_one,List.take_add_one,hti,hx,hy]⟩ (Weak.ref ⟨?_,.inr ⟨by first|exact Nat.zero_le _|exact Nat.le_refl _|simp,?_,fun g cs hg=>aD (hG0 g cs hg),?_,?_⟩⟩) (by simp only;omega)
     ·exact u'p
     ·exact u'p
     ·intro z hz
      simp only [List.mem_cons,List.not_mem_nil,or_false] at hz
      rcases hz with rfl|rfl|rfl<;>first|rfl|(simp only [inR];first|exact aA h1t|exact aA h2t)
     ·simp only [List.all_cons,List.all_nil,Bool.and_true,Bool.and_eq_true];try exact rfl
    ·have c3:(x != y)=true:=by simp [hxy]
     have c4:(x==y)=false:=by simp [hxy]
     repeat' (first|(refine u'S ?_;simp only [wS,simprocAttr,gx,gy,hA,hB,c1,c3,c4,e3,Bool.not_true,Bool.not_false])|refine u'Q fun _ _=>?_|refine aO ?_|refine aP (fun hg=>?_) fun hg=>?_|fail)
     refine aB rfl ?_
     simp only [wS,simprocAttr]
     rw [hV,decide_eq_false]
     intro e
     rw [e,hy] at hx
     cases hx
     exact hxy rfl
   ·have c1:decide (((i:Nat):Int)<((A.length:Nat):Int))=false:=by simp;omega
    repeat' (first|(refine u'S ?_;simp only [wS,simprocAttr,c1])|refine u'Q fun _ _=>?_|refine aO ?_|refine aP (fun hg=>?_) fun hg=>?_|fail)
    refine aB rfl ?_
    simp only [wS,simprocAttr]
    rw [hV,decide_eq_true]
    rw [List.take_of_length_le (by omega),List.take_of_length_le (by omega)] at hti
    exact hti
 ·have c0:(((A.length:Nat):Int) != ((B.length:Nat):Int))=true:=by simp;omega
  repeat' (first|(refine u'S ?_;simp only [wS,simprocAttr,c0])|refine u'Q fun _ _=>?_|refine aO ?_|refine aP (fun hg=>?_) fun hg=>?_|fail)
  refine aB rfl ?_
  simp only [wS,simprocAttr]
  rw [hV,decide_eq_false]
  exact fun e=>hl (by rw [e])
theorem NZ (a b:List Int) (ha:a.length≤1000000000000000):Pure Tryz.prog G0 74 [.sl false (aE a),.sl false (aE b)] (.bool (iW a b)):=by
 have hp:=t1 a b
 have hq:=t2 a b
 have ke:=NN a (b.take a.length) ha
 have htk:(aE b).take a.length=aE (b.take a.length):=by simp [aE,List.map_take]
 have hsl:(aE b).all (fun e=>decide (e.length=1))=true:=by simp [aE]
 have h1t:inE aC (aE a)=true:=aW a
 have h2t:inE aC (aE b)=true:=aW b
 have hga:∀ (i:Nat) (x:Int),a[i]? =some x→(aE a)[i]? =some [.int .i64 x]:=fun i x h=>by simp [aE,h]
 have hgb:∀ (i:Nat) (x:Int),b[i]? =some x→(aE b)[i]? =some [.int .i64 x]:=fun i x h=>by simp [aE,h]
 have hna:(aE a).length=a.length:=by simp [aE]
 have hnb:(aE b).length=b.length:=by simp [aE]
 generalize aE a=A at h1t hga hna ke ⊢
 generalize aE b=B at h2t hgb hnb htk hsl ⊢
 have h3t:inE aC (aE (b.take a.length))=true:=aW _
 generalize aE (b.take a.length)=C at ke htk h3t
 rw [← hna] at htk
 generalize iW a b=V at hp hq ⊢
 refine aQ hG0 Tryz.func74 rfl (by kernel_rfl) (by simp [Tryz.ntmps74]) (by simp only [inL,inR,h1t,h2t,Bool.and_self]) (by simp [inR]) ?_
 simp only [Tryz.ntmps74,aH,Nat.reduceAdd]
 by_cases hle:a.length≤b.length
 ·have c0:decide (((A.length:Nat):Int)≤((B.length:Nat):Int))=true:=by simp;omega
  have c1:A.length≤B.length:=by omega
  rw [← hp hle] at ke
  repeat' (first|(refine u'S ?_;simp only [wS,simprocAttr,c0,htk,c1,hsl,if_true,decide_true,Bool.true_and,Bool.and_true,List.drop_zero,Nat.sub_zero])|refine u'Q fun _ _=>?_|refine aO ?_|refine aP (fun hg=>?_) fun hg=>?_|(refine bH hG0 (ke) ?_;simp only [wS,simprocAttr,c0,htk]))
  refine aB rfl ?_
  simp only [wS,simprocAttr]
 ·have c0:decide (((A.length:Nat):Int)≤((B.length:Nat):Int))=false:=by simp;omega
  have hv:=hq (by omega)
  repeat' (first|(refine u'S ?_;simp only [wS,simprocAttr,c0])|refine u'Q fun _ _=>?_|refine aO ?_|refine aP (fun hg=>?_) fun hg=>?_|fail)
  refine aB rfl ?_
  simp only [wS,simprocAttr]
  rw [hv]
theorem CX (a b:List Int) (ha:a.length≤1000000000000000):Pure Tryz.prog G0 73 [.sl false (aE a),.sl false (aE b)] (.bool (iW a b)):=by
 have hp:=t1 a b
 have hq:=t2 a b
 have ke:=PD a (b.take a.length) ha
 have htk:(aE b).take a.length=aE (b.take a.length):=by simp [aE,List.map_take]
 have hsl:(aE b).all (fun e=>decide (e.length=1))=true:=by simp [aE]
 have h1t:inE aC (aE a)=true:=aW a
 have h2t:inE aC (aE b)=true:=aW b
 have hga:∀ (i:Nat) (x:Int),a[i]? =some x→(aE a)[i]? =some [.int .i64 x]:=fun i x h=>by simp [aE,h]
 have hgb:∀ (i:Nat) (x:Int),b[i]? =some x→(aE b)[i]? =some [.int .i64 x]:=fun i x h=>by simp [aE,h]
 have hna:(aE a).length=a.length:=by simp [aE]
 have hnb:(aE b).length=b.length:=by simp [aE]
 generalize aE a=A at h1t hga hna ke ⊢
 generalize aE b=B at h2t hgb hnb htk hsl ⊢
 have h3t:inE aC (aE (b.take a.length))=true:=aW _
 generalize aE (b.take a.length)=C at ke htk h3t
 rw [← hna] at htk
 generalize iW a b=V at hp hq ⊢
 refine aQ hG0 Tryz.func73 rfl (by kernel_rfl) (by simp [Tryz.ntmps73]) (by simp only [inL,inR,h1t,h2t,Bool.and_self]) (by simp [inR]) ?_
 simp only [Tryz.ntmps73,aH,Nat.reduceAdd]
 by_cases hle:a.length≤b.length
 ·have c0:decide (((A.length:Nat):Int)≤((B.length:Nat):Int))=true:=by simp;omega
  have c1:A.length≤B.length:=by omega
  rw [← hp hle] at ke
  repeat' (first|(refine u'S ?_;simp only [wS,simprocAttr,c0,htk,c1,hsl,if_true,decide_true,Bool.true_and,Bool.and_true,List.drop_zero,Nat.sub_zero])|refine u'Q fun _ _=>?_|refine aO ?_|refine aP (fun hg=>?_) fun hg=>?_|(refine bH hG0 (ke) ?_;simp only [wS,simprocAttr,c0,htk]))
  refine aB rfl ?_
  simp only [wS,simprocAttr]
 ·have c0:decide (((A.length:Nat):Int)≤((B.length:Nat):Int))=false:=by simp;omega
  have hv:=hq (by omega)
  repeat' (first|(refine u'S ?_;simp only [wS,simprocAttr,c0])|refine u'Q fun _ _=>?_|refine aO ?_|refine aP (fun hg=>?_) fun hg=>?_|fail)
  refine aB rfl ?_
  simp only [wS,simprocAttr]
  rw [hv]
def mC (M:List Si):List (List AV):=M.map fun s=>[.sl false (aE s.1),.int .i64 s.2]
def mV (M:List Si):AV:=.agg [.sl false (mC M)]
theorem gQ (M:List Si):(mC M).length=M.length:=List.length_map ..
theorem jG {M:List Si} {i:Nat} {s:Si} (h:M[i]? =some s):(mC M)[i]? =some [.sl false (aE s.1),.int .i64 s.2]:=by rw [mC,List.getElem?_map,h];rfl
theorem cK:∀ M:List Si,inE aC (mC M)=true
 | []=>rfl
 |s::M=>by
  have:=cK M
  have h:inE aC (aE s.1)=true:=aW _
  simp only [mC,List.map_cons,inE,inL,inR,h,Bool.and_self,Bool.true_and]
  exact this
set_option maxHeartbeats 4000000 in
theorem O1 (M:List Si) (hM:M.length≤1000000000000000) (hp:∀ s∈M,s.1.length≤1000000000000000):Pure Tryz.prog G0 39 [mV M] (.bool (dE M)):=by
 have hno:=@ET M
 have hyes:=@zD M
 have ht:=cK M
 have hn:=gQ M
 have hg:=fun (i:Nat) (s:Si)=>jG (M:=M) (i:=i) (s:=s)
 obtain ⟨V,hV⟩:∃ x,x=dE M:=⟨_,rfl⟩
 rw [← hV]
 rw [← hV] at hno hyes
 simp only [mV]
 generalize mC M=MC at ht hn hg ⊢
 refine aQ hG0 Tryz.func39 rfl (by kernel_rfl) (by simp [Tryz.ntmps39]) (by simp only [inL,inR,ht,Bool.and_self]) (by simp [inR]) ?_
 simp only [Tryz.ntmps39,aH,Nat.reduceAdd]
 repeat' (first|(refine u'S ?_;simp only [wS,simprocAttr])|refine u'Q fun _ _=>?_|refine aV ?_|refine aR (fun hg=>?_) fun hg=>?_|fail)
 refine aJ (α:={i:Nat // 1≤i∧(i≤M.length∨i=1)∧∀ (j:Nat) (x y:Si),j+1<i→M[j]? =some x→M[j+1]? =some y→ltI x.1 y.1=true}) (fun i=>[(1,.ptr 0 0 0),(3,.fn (.func 74) [] []),(4,.int .i64 (i.1:Nat))]) (fun i=>[.cells 0 [.sl false MC]]) (fun i=>M.length - i.1) ⟨1,Nat.le_refl _,.inr rfl,fun j x y h=>by omega⟩ (Weak.ref ⟨?_,.inl ?_⟩) ?_
 ·exact u'p
 ·exact u'p
 ·rintro ⟨i,hi1,hi2,hlts⟩ K hK
  try simp only at hi1 hi2 hlts
  by_cases hlt:i<M.length
  ·have c1:decide (((i:Nat):Int)<((MC.length:Nat):Int))=true:=by simp;omega
   have e3:=aL (k:=i) hlt (by omega)
   obtain ⟨m,rfl⟩:∃ m,i=m+1:=⟨i - 1,by omega⟩
   have em:IntKind.i64.wrap (((m+1:Nat):Int) - 1)=((m:Nat):Int):=by rw [cB (by omega) (by omega)];omega
   obtain ⟨x,hx⟩:∃ x,M[m]? =some x:=⟨_,List.getElem?_eq_getElem (by omega)⟩
   obtain ⟨y,hy⟩:∃ y,M[m+1]? =some y:=⟨_,List.getElem?_eq_getElem hlt⟩
   have gx:=hg m x hx
   have gy:=hg (m+1) y hy
   have hA:m<MC.length:=by omega
   have hB:m+1<MC.length:=by omega
   have kc:=P9 x y (hp x (List.mem_of_getElem? hx))
   have kb:=NZ x.1 y.1 (hp x (List.mem_of_getElem? hx))
   have hbad:=HL x y
   have hno':=fun h=>hno (i:=m) (j:=m+1) (by omega) hx hy h
   have hnx:ltI x.1 y.1=true→∀ (j:Nat) (x y:Si),j+1<m+1+1→M[j]? =some x→M[j+1]? =some y→ltI x.1 y.1=true:=fun h j x' y' hj hx' hy'=>by
    by_cases e:j=m
    ·subst e
     rw [hx] at hx'
     rw [hy] at hy'
     cases hx'
     cases hy'
     exact h
    ·exact hlts j x' y' (by omega) hx' hy'
   generalize ltI x.1 y.1=L at hbad hno' hnx
   generalize gV x y=cv at hbad kc
   generalize iW x.1 y.1=pv at hbad kb
   generalize aE x.1=ix at gx kc kb
   generalize aE y.1=iy at gy kc kb
   cases hd:decide (cv ≥ 0) with
   |true=>
    have hL:L=false:=by rw [hd] at hbad;simpa using hbad.symm
    have hv:=hno' hL
    repeat' (first|(refine u'S ?_;simp only [wS,simprocAttr,gx,gy,hA,hB,c1,e3,em,hd,Bool.not_true,Bool.not_false])|refine u'Q fun _ _=>?_|refine aO ?_|refine aP (fun hg=>?_) fun hg=>?_|refine u'G ?_|fail)
    refine aB rfl ?_
    simp only [wS,simprocAttr]
    rw [hv]
   |false=>
    rw [hd,Bool.false_or] at hbad
    cases pv with
    |true=>
     have hL:L=false:=by simpa using hbad.symm
     have hv:=hno' hL
     repeat' (first|(refine u'S ?_;simp only [wS,simprocAttr,gx,gy,hA,hB,c1,e3,em,hd,Bool.not_true,Bool.not_false])|refine u'Q fun _ _=>?_|refine aO ?_|refine aP (fun hg=>?_) fun hg=>?_|refine u'G ?_|fail)
     refine aB rfl ?_
     simp only [wS,simprocAttr]
     rw [hv]
    |false=>
     have hL:L=true:=by simpa using hbad.symm
     repeat' (first|(refine u'S ?_;simp only [wS,simprocAttr,gx,gy,hA,hB,c1,e3,em,hd,Bool.not_true,Bool.not_false])|refine u'Q fun _ _=>?_|refine aO ?_|refine aP (fun hg=>?_) fun hg=>?_|refine u'G ?_|fail)
     refine hK.go ⟨m+1+1,by omega,.inl hlt,hnx hL⟩ (Weak.ref ⟨?_,.inr ⟨by first|exact Nat.zero_le _|exact Nat.le_refl _|simp,?_,fun g cs hg=>aD (hG0 g cs hg),?_,?_⟩⟩) (by simp only;omega)
     ·exact u'p
     ·exact u'p
     ·intro z hz
      simp only [List.mem_cons,List.not_mem_nil,or_false] at hz
      rcases hz with rfl|rfl|rfl<;>first|rfl|rfl
     ·simp only [List.all_cons,List.all_nil,Bool.and_true,Bool.and_eq_true];try exact (by simp only [aG,inL,inR,Bool.true_and,Bool.and_true];exact aA ht)
  ·have c1:decide (((i:Nat):Int)<((MC.length:Nat):Int))=false:=by simp;omega
   have hv:=hyes fun j x y hx hy=>hlts j x y (by have:=(List.getElem?_eq_some_iff.1 hy).1;omega) hx hy
   repeat' (first|(refine u'S ?_;simp only [wS,simprocAttr,c1])|refine u'Q fun _ _=>?_|refine aO ?_|refine aP (fun hg=>?_) fun hg=>?_|fail)
   refine aB rfl ?_
   simp only [wS,simprocAttr]
   rw [hv,hn]
   simp;omega
end Go.Proofs.YtggflhbigolakaaGreatDoor
