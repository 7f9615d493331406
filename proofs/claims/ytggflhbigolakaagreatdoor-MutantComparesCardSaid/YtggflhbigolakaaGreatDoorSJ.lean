import Derived.Test.YtggflhbigolakaaGreatDoorSI
import Derived.Test.YtggflhbigolakaaGreatDoorVG
set_option linter.unusedVariables false
set_option linter.unusedSimpArgs false
namespace Go.Proofs.YtggflhbigolakaaGreatDoor
open Go.AM
attribute [local irreducible] AWp aY bC bI bU bW aN aS bL
set_option maxRecDepth 100000
def FE (mp:MP):List (List AV):=mp.map fun x=>.int .i64 x.1::T.enc x.2
theorem nO:∀ mp:MP,inE aC (FE mp)=true
 | []=>rfl
 |x::mp=>by
  have h:=nO mp
  simp only [FE,List.map_cons,inE,inL,inR,T.enc_tree,Bool.true_and] at h ⊢
  exact h
theorem OZ (mp:MP):∀ e∈FE mp,e.length=5:=fun e he=>by
 obtain ⟨x,_,rfl⟩:=List.mem_map.1 he
 simp [T.enc_len]
theorem M6 (mp:MP):(FE mp).length=mp.length:=List.length_map ..
theorem OA (mp:MP) (n:Int) (t:T):FE (mp++[(n,t)])=FE mp++[.int .i64 n::T.enc t]:=by simp [FE]
theorem LD {sz:Nat} {ks:List (List AV)} (h:∀ e∈ks,e.length=sz):∀ {j:Nat} {e:List AV},ks[j]? =some e→ks.flatten.drop (j*sz)=e++ks.flatten.drop ((j+1)*sz):=by
 induction ks with
 |nil=>intro j e he;simp at he
 |cons a ks ih=>
  intro j e he
  have ha:a.length=sz:=h a (by simp)
  cases j with
  |zero=>
   obtain rfl:a=e:=by simpa using he
   rw [List.flatten_cons,Nat.zero_mul,List.drop_zero,Nat.zero_add,Nat.one_mul,← ha,List.drop_left]
  |succ j=>
   have:=ih (fun x hx=>h x (by simp [hx])) (j:=j) (e:=e) (by simpa using he)
   rw [List.flatten_cons,Nat.succ_mul,Nat.succ_mul,Nat.add_comm (j*sz),Nat.add_comm ((j+1)*sz),← ha,← List.drop_drop,← List.drop_drop,List.drop_left,ha]
   exact this
namespace T
mutual
def rmat : T → T → Bool → MP → Bool × MP × MP
 |mk pk pn pm ps,t,root,mp=>
  if pk=28 then
   if pn<0∨7<pn then (false,mp,mp) else match c7 mp pn with
    |some x=>(cmp x t==0,mp,mp)
    |none=>(true,mp++[(pn,t)],mp++[(pn,t)])
  else if pk=t.kind∧pm=t.low∧(pn=t.num∨(root=true∧pn= -100))∧ps.length=t.kids.length then rmats ps t.kids mp else (false,mp,mp)
def rmats:List T→List T→MP→Bool × MP × MP
 |p::ps,e::es,mp=>match rmat p e false mp with
  |(true,mp',_)=>rmats ps es mp'
  |(false,_,mr)=>(false,mp,mr)
 |_,_,mp=>(true,mp,mp)
end
mutual
theorem rmat_mat:∀ (p t:T) (root:Bool) (mp:MP),(rmat p t root mp).1=(mat p t root mp).1∧((mat p t root mp).1=true→(rmat p t root mp).2=((mat p t root mp).2,(mat p t root mp).2))
 |mk pk pn pm ps,t,root,mp=>by
  have h:=tP ps t.kids mp
  rw [rmat,mat]
  split
  ·split
   ·exact ⟨rfl,fun h=>rfl⟩
   ·cases c7 mp pn<;>exact ⟨rfl,fun _=>rfl⟩
  ·split
   ·exact h
   ·exact ⟨rfl,fun h=>rfl⟩
theorem tP:∀ (ps es:List T) (mp:MP),(rmats ps es mp).1=(mats ps es mp).1∧((mats ps es mp).1=true→(rmats ps es mp).2=((mats ps es mp).2,(mats ps es mp).2))
 |p::ps,e::es,mp=>by
  obtain ⟨h1,h2⟩:=rmat_mat p e false mp
  rw [rmats,mats]
  rcases hm:mat p e false mp with ⟨ok,mp'⟩
  rcases hr:rmat p e false mp with ⟨ok',a,b⟩
  rw [hm,hr] at h1 h2
  simp only at h1 h2
  subst h1
  cases ok' with
  |true=>
   have:=h2 rfl
   simp only [Prod.mk.injEq] at this
   obtain ⟨rfl,rfl⟩:=this
   exact tP ps es _
  |false=>exact ⟨rfl,fun h=>by cases h⟩
 | [],es,mp=>by cases es<;>simp [rmats,mats]
 |_::_,[],mp=>by simp [rmats,mats]
end
theorem rmats_drop {ps es:List T} {i:Nat} {p e:T} (hp:ps[i]? =some p) (he:es[i]? =some e) (mp:MP):rmats (ps.drop i) (es.drop i) mp=match rmat p e false mp with
  |(true,mp',_)=>rmats (ps.drop (i+1)) (es.drop (i+1)) mp'
  |(false,_,mr)=>(false,mp,mr):=by
 obtain ⟨h1,h2⟩:=List.getElem?_eq_some_iff.1 hp
 obtain ⟨h3,h4⟩:=List.getElem?_eq_some_iff.1 he
 rw [List.drop_eq_getElem_cons h1,List.drop_eq_getElem_cons h3,h2,h4,rmats]
theorem rmat_good {B:Nat} (p t:T) (root:Bool) (mp:MP) (ht:size t≤B) (hm:gW B mp) (h:(rmat p t root mp).1=true):(rmat p t root mp).2.2=(rmat p t root mp).2.1∧gW B (rmat p t root mp).2.1:=by
 obtain ⟨h1,h2⟩:=rmat_mat p t root mp
 rw [h] at h1
 rw [h2 h1.symm]
 exact ⟨rfl,mat_good p t root mp ht hm⟩
end T
mutual
theorem T.mat_len:∀ (p t:T) (root:Bool) (mp:MP),(T.mat p t root mp).2.length≤mp.length+T.size p
 | .mk pk pn pm ps,t,root,mp=>by
  have h:=T.mats_len ps t.kids mp
  rw [T.mat,T.size]
  split
  ·split
   ·simp
   ·split
    ·simp
    ·simp only [List.length_append,List.length_singleton];omega
  ·split
   ·omega
   ·simp
theorem T.mats_len:∀ (ps es:List T) (mp:MP),(T.mats ps es mp).2.length≤mp.length+T.sizes ps
 |p::ps,e::es,mp=>by
  have h1:=T.mat_len p e false mp
  rw [T.mats,T.sizes]
  rcases hm:T.mat p e false mp with ⟨ok,mp'⟩
  rw [hm] at h1
  cases ok with
  |true=>have h2:=T.mats_len ps es mp';simp only at h1 h2 ⊢;omega
  |false=>simp only at h1 ⊢;omega
 | [],es,mp=>by cases es<;>simp [T.mats]
 |_::_,[],mp=>by simp [T.mats]
end
theorem T.rmat_len (p t:T) (root:Bool) (mp:MP):(T.rmat p t root mp).1=true→(T.rmat p t root mp).2.1.length≤mp.length+T.size p:=fun h=>by
 obtain ⟨h1,h2⟩:=T.rmat_mat p t root mp
 rw [h] at h1
 rw [h2 h1.symm]
 exact T.mat_len p t root mp
theorem MW (pk pn pm k n m:Int) (ps es:List T) (root:Bool) (mp:MP) (h28:pk≠28):(if pk=k∧pm=m∧(pn=n∨(root=true∧pn= -100))∧ps.length=es.length then T.rmats ps es mp else (false,mp,mp))=
  if (pk != k)=true then (false,mp,mp) else if (pm != m)=true then (false,mp,mp) else if (((ps.length:Nat):Int) != ((es.length:Nat):Int))=true then (false,mp,mp) else if (pn != n)=true then (if root=true then (if (!pn== -100)=true then (false,mp,mp) else T.rmats ps es mp) else (false,mp,mp)) else T.rmats ps es mp:=by
 simp only [beq_iff_eq,decide_eq_true_eq,bne_iff_ne,ne_eq,Bool.not_eq_eq_eq_not,Bool.not_true,beq_eq_false_iff_ne,Int.natCast_inj]
 by_cases hk:pk=k<;>by_cases hm:pm=m<;>by_cases hl:ps.length=es.length<;>by_cases hn:pn=n<;>by_cases h1:pn= -100<;>cases root<;>simp only [hk,hm,hn,h1,hl,not_true_eq_false,not_false_eq_true,if_true,if_false,true_and,and_true,false_and,and_false,or_true,true_or,or_false,false_or,reduceCtorEq,Bool.false_eq_true]<;>simp_all
theorem RC {r v sz:Nat} {app:List (List AV)} (h:app≠[]):rv r v sz app=.osl r v 0 app.length sz false:=if_neg h
theorem PI {v:Nat} {app:List (List AV)} (h:app≠[]):rvR v app=.cells v app.flatten:=if_neg h
theorem FP {mp:MP} {i:Nat} {a:Int} {x:T} (h:mp[i]? =some (a,x)) (n:Int):c7 (mp.drop i) n=if n=a then some x else c7 (mp.drop (i+1)) n:=by
 obtain ⟨h1,h2⟩:=List.getElem?_eq_some_iff.1 h
 rw [List.drop_eq_getElem_cons h1,h2,c7]
def SF (N:Nat):Prop:=∀ p:T,T.size p≤N→∀ t:T,T.size t≤1000000000000→∀ (root:Bool) (mp:MP),gW 1000000000000 mp→mp.length+T.size p≤1000000000000→∀ rows:Nat→ARow,rows 3=rvR ((FE mp).length - 1) (FE mp)→
 dH Tryz.prog G0 112 [.agg (T.enc p),.agg (T.enc t),.bool root,rv 3 ((FE mp).length - 1) 5 (FE mp)] rows [3] ⟨.tup [rv 3 ((FE ((T.rmat p t root mp).2.1)).length - 1) 5 (FE ((T.rmat p t root mp).2.1)),.bool (T.rmat p t root mp).1],[(3,rvR ((FE ((T.rmat p t root mp).2.2)).length - 1) (FE ((T.rmat p t root mp).2.2)))]⟩
set_option maxHeartbeats 8000000 in
theorem PM : ∀ N : Nat, N ≤ 100000000000 → SF N := by
 intro N
 induction N with
 |zero=>intro _ p hp;have:=T.size_pos p;omega
 | succ N ih =>
  intro hN p hp t ht root mp hm hml rows h3
  have ih:=ih (by omega)
  have h1t:=T.enc_tree p
  have h2t:=T.enc_tree t
  obtain ⟨pk,pn,pm,ps⟩:=p
  obtain ⟨k,n,m,es⟩:=t
  simp only [T.size] at hp hml
  obtain ⟨res,hres⟩:∃ r,r=T.rmat (.mk pk pn pm ps) (.mk k n m es) root mp:=⟨_,rfl⟩
  rw [← hres]
  rw [T.rmat] at hres
  simp only [T.kind,T.num,T.low,T.kids] at hres
  have ks:=fun x (h:T.size x≤1000000000000)=>FG x (.mk k n m es) (by omega)
  have hsn:=OA mp pn (.mk k n m es)
  have hFs:=OZ mp
  have hFl:=M6 mp
  have hFt:=nO mp
  have hls:=T.len_sizes es
  have hts:=ht
  simp only [T.size] at hts
  have hgA:=fun (i:Nat) (e:T)=>T.encs_get (es:=ps) (i:=i) (e:=e)
  have hgB:=fun (i:Nat) (e:T)=>T.encs_get (es:=es) (i:=i) (e:=e)
  have hnA:=T.encs_len ps
  have hnB:=T.encs_len es
  simp only [T.enc] at h1t h2t ks hsn ⊢
  generalize T.encs ps=A at h1t hgA hnA ⊢
  generalize T.encs es=B at h2t hgB hnB hsn ks ⊢
  have hAt:inE aC A=true:=by simpa only [inL,inR,Bool.true_and,Bool.and_true] using h1t
  have hBt:inE aC B=true:=by simpa only [inL,inR,Bool.true_and,Bool.and_true] using h2t
  refine cD [.dead,.dead,.dead,rvR ((FE mp).length - 1) (FE mp)] hG0 Tryz.func112 rfl (by kernel_rfl) (by simp [Tryz.ntmps112]) ?_ ?_ ?_ ?_ ?_ ?_ ?_
  ·intro r hr
   simp only [List.mem_cons,List.not_mem_nil,or_false] at hr
   rcases hr with rfl
   ·exact h3.symm
  ·intro r hr
   match r,hr with
   |0,_=>simp
   |1,_=>simp
   |2,_=>simp
   |3,hr=>exact absurd (by simp) hr
   |r+4,_=>simp
  ·simp only [inL,inR,Bool.true_and,Bool.and_true,Bool.and_eq_true];exact ⟨aA hAt,aA hBt,cH (by simp)⟩
  ·intro r hr
   simp only [List.mem_cons,List.not_mem_nil,or_false] at hr
   rcases hr with rfl
   ·rw [h3];exact bQ (aA hFt)
  ·intro r hr h
   simp only [List.mem_cons,List.not_mem_nil,or_false] at hr
   simp only [List.length_cons,List.length_nil] at h
   omega
  ·simp
  simp only [Tryz.ntmps112,aH,Nat.reduceAdd,List.length_cons,List.length_nil]
  have post:∀ (s:AS) (v:AV),s.row 3=rvR ((FE (res.2.2)).length - 1) (FE (res.2.2))→v=.tup [rv 3 ((FE (res.2.1)).length - 1) 5 (FE (res.2.1)),.bool res.1]→
    (v=(Eff.mk (.tup [rv 3 ((FE (res.2.1)).length - 1) 5 (FE (res.2.1)),.bool res.1]) [(3,rvR ((FE (res.2.2)).length - 1) (FE (res.2.2)))]).val∨AM.wk v=(Eff.mk (.tup [rv 3 ((FE (res.2.1)).length - 1) 5 (FE (res.2.1)),.bool res.1]) [(3,rvR ((FE (res.2.2)).length - 1) (FE (res.2.2)))]).val)∧inR (fun r=>[3].contains r) v=true∧∀ r∈[3],s.row r=upd rows [(3,rvR ((FE (res.2.2)).length - 1) (FE (res.2.2)))] r∧aG (fun r=>[3].contains r) (s.row r)=true:=fun s v a hv=>by
   refine ⟨.inl hv,?_,fun r hr=>?_⟩
   ·rw [hv];simp only [inR,inL,Bool.and_true];exact cH rfl
   ·rw [List.mem_singleton.1 hr,a]
    exact ⟨rfl,bQ (aA (nO _))⟩
  by_cases h28:pk=28
  ·have e28 : (pk == 28) = true := by simp [h28]
   rw [if_pos h28] at hres
   by_cases h0:pn<0
   ·have c1:decide (pn<0)=true:=by simpa using h0
    rw [if_pos (.inl h0)] at hres
    repeat' (first|(refine u'S ?_;simp only [wS,simprocAttr,e28,c1])|refine u'Q fun _ _=>?_|refine aO ?_|refine aP (fun hg=>?_) fun hg=>?_|fail)
    refine eZ rfl (post _ _ ?_ ?_)<;>(rw [hres];simp only [wS,simprocAttr];try exact rfl)
   ·have c1 : decide (pn < 0) = false := by simpa using h0
    by_cases h7:7<pn
    ·have c2:decide (pn > 7)=true:=by simpa using h7
     rw [if_pos (.inr h7)] at hres
     repeat' (first|(refine u'S ?_;simp only [wS,simprocAttr,e28,c1,c2])|refine u'Q fun _ _=>?_|refine aO ?_|refine aP (fun hg=>?_) fun hg=>?_|fail)
     refine eZ rfl (post _ _ ?_ ?_)<;>(rw [hres];simp only [wS,simprocAttr];try exact rfl)
    ·have c2:decide (pn > 7)=false:=by simpa using h7
     rw [if_neg (by omega)] at hres
     repeat' (first|(refine u'S ?_;simp only [wS,simprocAttr,e28,c1,c2])|refine u'Q fun _ _=>?_|refine aV ?_|refine aR (fun hg=>?_) fun hg=>?_|fail)
     refine aJ (α:={i:Nat // i≤mp.length∧c7 mp pn=c7 (mp.drop i) pn}) (fun i=>[(3,rv 3 ((FE mp).length - 1) 5 (FE mp)),(4,.ptr 4 0 0),(5,.ptr 5 0 0),(10,.int .i64 (i.1:Nat))]) (fun i=>[.dead,.dead,.dead,rvR ((FE mp).length - 1) (FE mp),.cells 0 [.int .i64 pk,.int .i64 pn,.int .i64 pm,.sl false A],.cells 0 [.int .i64 k,.int .i64 n,.int .i64 m,.sl false B]]) (fun i=>mp.length - i.1) ⟨0,Nat.zero_le _,by rw [List.drop_zero]⟩ (Weak.ref ⟨?_,.inl ?_⟩) ?_
     ·exact u'p
     ·exact u'p
     ·rintro ⟨i,hi,hlk⟩ K hK
      try simp only at hi hlk
      by_cases hlt:i<mp.length
      ·have hne:FE mp≠[]:=fun h=>by rw [h] at hFl;simp at hFl;omega
       have q1:=RC (r:=3) (v:=(FE mp).length - 1) (sz:=5) hne
       have q2:=PI (v:=(FE mp).length - 1) hne
       obtain ⟨⟨a,x⟩,hx⟩:∃ x,mp[i]? =some x:=⟨_,List.getElem?_eq_getElem hlt⟩
       have hxf:(FE mp)[i]? =some (.int .i64 a::T.enc x):=by simp only [FE,List.getElem?_map,hx,Option.map_some]
       have hf0:=LD hFs hxf
       have hd:=FP hx pn
       have kx:=ks x (hm _ (List.mem_of_getElem? hx))
       have hfl:(FE mp).flatten.length=(FE mp).length*5:=cG hFs
       obtain ⟨xa,xb,xc,xd,hxe⟩:=aI x
       rw [hxe] at hf0 kx
       have hf1:(FE mp).flatten.drop (i*5+1)=[.int .i64 xa,.int .i64 xb,.int .i64 xc,.sl false xd]++(FE mp).flatten.drop ((i+1)*5):=by
        rw [← List.drop_drop,hf0];rfl
       simp only [List.cons_append,List.nil_append] at hf0 hf1
       have e3:=aL (k:=i) hlt (by omega)
       have c3:decide (((i:Nat):Int)<(((FE mp).length:Nat):Int))=true:=by simp;omega
       have hA:i<(FE mp).length:=by omega
       repeat' (first|(refine u'S ?_;simp only [wS,simprocAttr,q1,q2,hf0,hf1,hfl,e3,c3,hA,↓aM,↓aF])|refine u'Q fun _ _=>?_|refine aO ?_|refine aP (fun hg=>?_) fun hg=>?_|refine u'G ?_|fail)
       ·have ha:pn=a:=by simp_all
        rw [hlk,hd,if_pos ha] at hres
        refine eZ rfl (post _ _ ?_ ?_)<;>(rw [hres];simp only [wS,simprocAttr,q1,q2];try exact rfl)
       ·have ha:¬ pn=a:=fun h=>by simp_all
        refine hK.go ⟨i+1,hlt,by rw [hlk,hd,if_neg ha]⟩ (Weak.ref ⟨?_,.inr ⟨by first|exact Nat.zero_le _|exact Nat.le_refl _|simp,?_,fun g cs hg=>aD (hG0 g cs hg),?_,?_⟩⟩) (by simp only;omega)
        ·simp only [wS,simprocAttr,q1];try exact rfl
        ·simp only [wS,simprocAttr,q2];try exact rfl
        ·intro z hz
         simp only [List.mem_cons,List.not_mem_nil,or_false] at hz
         rcases hz with rfl|rfl|rfl|rfl<;>first|rfl|(rw [q1];rfl)
        ·simp only [List.all_cons,List.all_nil,Bool.and_true,Bool.and_eq_true];try exact ⟨rfl,rfl,rfl,(by rw [q2];exact cF (aA hFt)),by simp only [aG,inL,inR,Bool.true_and,Bool.and_true];exact aA hAt,by simp only [aG,inL,inR,Bool.true_and,Bool.and_true];exact aA hBt⟩
      ·have c3:decide (((i:Nat):Int)<(((FE mp).length:Nat):Int))=false:=by simp;omega
       have hLn:∀ rows:Nat→ARow,rows 3=rvR ((FE mp).length - 1) (FE mp)→r7 Tryz.prog 134 (rv 3 ((FE mp).length - 1) 5 (FE mp)) rows=some (.int .i64 ((FE mp).length:Nat)):=fun rows h=>O4 (et:=138) (by kernel_rfl) h
       rw [hlk,show i=mp.length by omega,List.drop_length,c7] at hres
       have hvv:(FE (mp++[(pn,.mk k n m es)])).length - 1=if FE mp=[] then 0 else (FE mp).length - 1+1:=by rw [hsn];exact vv
       have hnt:=nO (mp++[(pn,.mk k n m es)])
       rw [hsn] at hnt
       repeat' (first|(refine u'S ?_;simp only [wS,simprocAttr,↓hLn,c3,↓aM,↓aF])|refine u'Q fun _ _=>?_|refine aO ?_|refine aP (fun hg=>?_) fun hg=>?_|refine b8 (v':=(FE (mp++[(pn,.mk k n m es)])).length - 1) (es:=[[.int .i64 pn,.int .i64 k,.int .i64 n,.int .i64 m,.sl false B]]) (by':=56) (by kernel_rfl) u'p hvv hFs (by simp [cJ]) (by simp) (by rw [hFl];simp only [List.length_singleton];omega) (u'T ?_))
       refine eZ rfl (post _ _ ?_ ?_)<;>(rw [hres];simp only [wS,simprocAttr,hsn];try exact rfl)
  ·have e28 : (pk == 28) = false := by simp [h28]
   have hq:=MW pk pn pm k n m ps es root mp h28
   rw [if_neg h28] at hres
   replace hq:=hres.trans hq
   clear hres
   cases root
   all_goals repeat' (first|(refine u'S ?_;simp only [wS,simprocAttr,e28,hnA,hnB,Bool.not_true,Bool.not_false,↓aM,↓aF])|refine u'Q fun _ _=>?_|refine aO ?_|refine aP (fun hg=>?_) fun hg=>?_|fail)
   all_goals simp only [*,if_true,if_false,Bool.false_eq_true] at hq
   all_goals try first
    |(refine eZ rfl (post _ _ ?_ ?_)<;>(rw [hq];simp only [wS,simprocAttr];try exact rfl);done)
   all_goals
    have hll:ps.length=es.length:=by
     have:=‹(((ps.length:Nat):Int) != ((es.length:Nat):Int))=false›
     simp at this;omega
    refine aJ (α:={x:Nat × MP // x.1≤es.length∧gW 1000000000000 x.2∧x.2.length+T.sizes (ps.drop x.1)≤1000000000000∧T.rmats (ps.drop x.1) (es.drop x.1) x.2=res}) (fun x=>[(3,rv 3 ((FE (x.1.2)).length - 1) 5 (FE (x.1.2))),(4,.ptr 4 0 0),(5,.ptr 5 0 0),(11,.int .i64 (x.1.1:Nat))]) (fun x=>[.dead,.dead,.dead,rvR ((FE (x.1.2)).length - 1) (FE (x.1.2)),.cells 0 [.int .i64 pk,.int .i64 pn,.int .i64 pm,.sl false A],.cells 0 [.int .i64 k,.int .i64 n,.int .i64 m,.sl false B]]) (fun x=>es.length - x.1.1) ⟨(0,mp),Nat.zero_le _,hm,by simp only [List.drop_zero];omega,hq.symm⟩ (Weak.ref ⟨?_,.inl ?_⟩) ?_
    ·exact u'p
    ·exact u'p
    ·clear hq hsn ks hFs hFl hFt
     rintro ⟨⟨i,mi⟩,hi,hgm,hlm,hri⟩ K hK
     simp only at hi hgm hlm hri
     by_cases hlt:i<es.length
     ·have c1:decide (((i:Nat):Int)<((B.length:Nat):Int))=true:=by simp;omega
      obtain ⟨x,hx⟩:∃ x,ps[i]? =some x:=⟨_,List.getElem?_eq_getElem (by omega)⟩
      obtain ⟨y,hy⟩:∃ y,es[i]? =some y:=⟨_,List.getElem?_eq_getElem hlt⟩
      have gx:=hgA i x hx
      have gy:=hgB i y hy
      have hA:i<A.length:=by omega
      have hB:i<B.length:=by omega
      have e3:=aL (k:=i) hlt (by omega)
      have hd:=T.rmats_drop hx hy mi
      have hdr:T.sizes (ps.drop i)=T.size x+T.sizes (ps.drop (i+1)):=by
       obtain ⟨q1,q2⟩:=List.getElem?_eq_some_iff.1 hx
       rw [List.drop_eq_getElem_cons q1,q2,T.sizes]
      have hsx:T.size x≤N:=by have:=T.size_mem (List.mem_of_getElem? hx);omega
      have hsy:T.size y≤1000000000000:=by have:=T.size_mem (List.mem_of_getElem? hy);simp only [T.size] at ht;omega
      have kc:=fun rows h3=>ih x hsx y hsy false mi hgm (by omega) rows h3
      have hgi:=T.rmat_good x y false mi hsy hgm
      have hle:=T.rmat_len x y false mi
      obtain ⟨xa,xb,xc,xd,hxe⟩:=aI x
      obtain ⟨ya,yb,yc,yd,hye⟩:=aI y
      rw [hxe] at gx kc
      rw [hye] at gy kc
      generalize T.rmat x y false mi=r1 at kc hd hgi hle
      obtain ⟨ok,ma,mb⟩:=r1
      cases ok with
      |true=>
       obtain ⟨hab,hga⟩:=hgi rfl
       have hle:=hle rfl
       simp only at hab hga hle kc hd
       subst hab
       repeat' (first|(refine u'S ?_;simp only [wS,simprocAttr,gx,gy,hA,hB,c1,e3,Bool.not_true,Bool.not_false,↓aM,↓aF])|refine u'Q fun _ _=>?_|refine aO ?_|refine aP (fun hg=>?_) fun hg=>?_|refine dW (kc _ u'p) (u'T ?_))
       refine hK.go ⟨(i+1,mb),hlt,hga,by simp only;omega,by rw [← hri,hd]⟩ (Weak.ref ⟨?_,.inr ⟨by first|exact Nat.zero_le _|exact Nat.le_refl _|simp,?_,fun g cs hg=>aD (hG0 g cs hg),?_,?_⟩⟩) (by simp only;omega)
       ·simp only [wS,simprocAttr,↓aM,↓aF];try exact rfl
       ·exact u'p
       ·intro z hz
        simp only [List.mem_cons,List.not_mem_nil,or_false] at hz
        rcases hz with rfl|rfl|rfl|rfl<;>first|rfl|exact cH rfl
       ·simp only [List.all_cons,List.all_nil,Bool.and_true,Bool.and_eq_true];try exact ⟨rfl,rfl,rfl,bQ (aA (nO _)),by simp only [aG,inL,inR,Bool.true_and,Bool.and_true];exact aA hAt,by simp only [aG,inL,inR,Bool.true_and,Bool.and_true];exact aA hBt⟩
      |false=>
       have hres2:res=(false,mi,mb):=by rw [← hri,hd]
       repeat' (first|(refine u'S ?_;simp only [wS,simprocAttr,gx,gy,hA,hB,c1,e3,Bool.not_true,Bool.not_false,↓aM,↓aF])|refine u'Q fun _ _=>?_|refine aO ?_|refine aP (fun hg=>?_) fun hg=>?_|refine dW (kc _ u'p) (u'T ?_))
       refine eZ rfl (post _ _ ?_ ?_)<;>(rw [hres2];simp only [wS,simprocAttr];try exact rfl)
     ·have c1:decide (((i:Nat):Int)<((B.length:Nat):Int))=false:=by simp;omega
      have hres2:res=(true,mi,mi):=by
       rw [← hri,show i=ps.length by omega,List.drop_length,T.rmats]
       simp
      repeat' (first|(refine u'S ?_;simp only [wS,simprocAttr,c1])|refine u'Q fun _ _=>?_|refine aV ?_|refine aR (fun hg=>?_) fun hg=>?_|fail)
      refine eZ rfl (post _ _ ?_ ?_)<;>(rw [hres2];simp only [wS,simprocAttr];try exact rfl)
def eN (mp:MP):Int:=mp.foldl (fun m x=>max m x.1) (-1)
def t5 (mp:MP) (N:Nat):List T:=mp.foldl (fun l x=>l.set x.1.toNat x.2) (List.replicate N T.zero)
theorem oE (mp:MP) (a:Int) (x:T):eN (mp++[(a,x)])=max (eN mp) a:=by simp [eN]
theorem xS (mp:MP) (a:Int) (x:T) (N:Nat):t5 (mp++[(a,x)]) N=(t5 mp N).set a.toNat x:=by simp [t5]
theorem D7 (mp:MP) (N:Nat):(t5 mp N).length=N:=by
 suffices h:∀ (mp:MP) (l:List T),(mp.foldl (fun l x=>l.set x.1.toNat x.2) l).length=l.length by rw [t5,h,List.length_replicate]
 intro mp
 induction mp with
 |nil=>intro l;rfl
 |cons x mp ih=>intro l;rw [List.foldl_cons,ih,List.length_set]
theorem kQ:∀ (mp:MP) (a:Int) (x:T) (n:Int),c7 (mp++[(a,x)]) n=match c7 mp n with|some y=>some y|none=>if n=a then some x else none
 | [],a,x,n=>by simp [c7]
 |y::mp,a,x,n=>by
  rw [List.cons_append,c7,c7]
  split
  ·rfl
  ·exact kQ mp a x n
def rG (mp:MP):Prop:=(∀ x∈mp,0≤x.1∧x.1≤7)∧(-1≤eN mp∧eN mp≤7)∧∀ n x,c7 mp n=some x→0≤n∧n≤eN mp∧∀ N:Nat,n<N→(t5 mp N)[n.toNat]? =some x
theorem yL:rG []:=⟨fun x h=>(by cases h),⟨by decide,by decide⟩,fun n x h=>(by cases h)⟩
theorem FW {mp:MP} {a:Int} {x:T} (h:rG mp) (ha:0≤a) (ha7:a≤7) (hn:c7 mp a=none):rG (mp++[(a,x)]):=by
 obtain ⟨h1,⟨h2,h3⟩,h4⟩:=h
 refine ⟨fun y hy=>?_,by rw [oE];omega,fun n y hy=>?_⟩
 ·rcases List.mem_append.1 hy with hy|hy
  ·exact h1 y hy
  ·rw [List.mem_singleton.1 hy];exact ⟨ha,ha7⟩
 ·rw [kQ] at hy
  rw [oE]
  cases hl:c7 mp n with
  |some z=>
   rw [hl] at hy
   obtain ⟨g1,g2,g3⟩:=h4 n z hl
   have hna:n≠a:=fun e=>by rw [e,hn] at hl;cases hl
   refine ⟨g1,by omega,fun N hN=>?_⟩
   rw [xS,List.getElem?_set_ne (by omega),g3 N hN]
   exact hy
  |none=>
   rw [hl] at hy
   simp only at hy
   split at hy
   ·rename_i e
    subst e
    refine ⟨ha,by omega,fun N hN=>?_⟩
    rw [xS,List.getElem?_set_self (by rw [D7];omega)]
    exact hy
   ·cases hy
namespace T
mutual
theorem mat_goodO:∀ (p t:T) (root:Bool) (mp:MP),rG mp→rG (mat p t root mp).2∧(∀ n x,c7 mp n=some x→c7 (mat p t root mp).2 n=some x)∧((mat p t root mp).1=true→∀ n∈nums p,∃ x,c7 (mat p t root mp).2 n=some x)
 |mk pk pn pm ps,t,root,mp,h=>by
  have ih:=uF ps t.kids mp h
  rw [mat,nums]
  by_cases h28:pk=28
  ·rw [if_pos h28,if_pos h28]
   by_cases hr:pn<0∨7<pn
   ·rw [if_pos hr];exact ⟨h,fun _ _ h=>h,fun h=>by cases h⟩
   ·rw [if_neg hr,if_pos (by omega)]
    cases hl:c7 mp pn with
    |some x=>exact ⟨h,fun _ _ h=>h,fun _ n hn=>by rw [List.mem_singleton.1 hn];exact ⟨x,hl⟩⟩
    |none=>
     refine ⟨FW h (by omega) (by omega) hl,fun n x hx=>by simp only [kQ,hx],fun _ n hn=>?_⟩
     rw [List.mem_singleton.1 hn]
     exact ⟨t,by simp only [kQ,hl,if_true]⟩
  ·rw [if_neg h28,if_neg h28]
   split
   ·rename_i hc
    exact ⟨ih.1,ih.2.1,ih.2.2 hc.2.2.2⟩
   ·exact ⟨h,fun _ _ h=>h,fun h=>by cases h⟩
theorem uF:∀ (ps es:List T) (mp:MP),rG mp→rG (mats ps es mp).2∧(∀ n x,c7 mp n=some x→c7 (mats ps es mp).2 n=some x)∧(ps.length=es.length→(mats ps es mp).1=true→∀ n∈numss ps,∃ x,c7 (mats ps es mp).2 n=some x)
 |p::ps,e::es,mp,h=>by
  obtain ⟨h1,h2,h3⟩:=mat_goodO p e false mp h
  rw [mats,numss]
  rcases hm:mat p e false mp with ⟨ok,mp'⟩
  rw [hm] at h1 h2 h3
  cases ok with
  |true=>
   obtain ⟨g1,g2,g3⟩:=uF ps es mp' h1
   refine ⟨g1,fun n x hx=>g2 n x (h2 n x hx),fun hl ht n hn=>?_⟩
   rcases List.mem_append.1 hn with hn|hn
   ·obtain ⟨x,hx⟩:=h3 rfl n hn
    exact ⟨x,g2 n x hx⟩
   ·exact g3 (by simpa using hl) ht n hn
  |false=>exact ⟨h1,h2,fun _ h=>by cases h⟩
 | [],es,mp,h=>by
  have:mats [] es mp=(true,mp):=by cases es<;>simp [mats]
  rw [this]
  exact ⟨h,fun _ _ h=>h,fun _ _ n hn=>by cases hn⟩
 |_::_,[],mp,h=>by
  have:∀ p ps,mats (p::ps) [] mp=(true,mp):=fun p ps=>by simp [mats]
  rw [this]
  exact ⟨h,fun _ _ h=>h,fun hl=>by simp at hl⟩
end
mutual
def hok (P:Int→Prop):T→Prop
 |mk k n m es=>if k=28 then P n else FV P es
def FV (P:Int→Prop):List T→Prop
 | []=>True
 |e::es=>hok P e∧FV P es
end
mutual
theorem hok_mono {P Q:Int→Prop} (h:∀ n,P n→Q n):∀ t:T,hok P t→hok Q t
 |mk k n m es,ht=>by
  rw [hok] at ht ⊢
  split
  ·rename_i hk;rw [if_pos hk] at ht;exact h n ht
  ·rename_i hk;rw [if_neg hk] at ht;exact qN h es ht
theorem qN {P Q:Int→Prop} (h:∀ n,P n→Q n):∀ ts:List T,FV P ts→FV Q ts
 | [],_=>trivial
 |e::es,ht=>⟨hok_mono h e ht.1,qN h es ht.2⟩
end
theorem hoks_mem {P:Int→Prop}:∀ {ts:List T},FV P ts→∀ e∈ts,hok P e
 |e::es,h,x,hx=>by
  rcases List.mem_cons.1 hx with rfl|hx
  ·exact h.1
  ·exact hoks_mem h.2 x hx
mutual
theorem fine_hok (root rest:Bool):∀ t:T,fine root rest t=true→hok (fun n=>n∈nums t) t
 |mk k n m es,h=>by
  rw [fine,Bool.and_eq_true,Bool.and_eq_true,Bool.and_eq_true] at h
  obtain ⟨⟨_,h1⟩,_,h2⟩:=h
  rw [hok]
  split
  ·rename_i hk
   subst hk
   simp only [decide_true,Bool.not_true,Bool.false_or] at h1
   have:=mL.1 h1
   rw [nums,if_pos rfl,if_pos ⟨this.1,this.2.1⟩]
   exact List.mem_singleton.2 rfl
  ·rename_i hk
   have:=yU rest es h2
   rw [nums,if_neg hk]
   exact this
theorem yU (rest:Bool):∀ ts:List T,gK rest ts=true→FV (fun n=>n∈numss ts) ts
 | [],_=>trivial
 |e::es,h=>by
  rw [gK,Bool.and_eq_true] at h
  exact ⟨hok_mono (fun n hn=>by rw [numss];exact List.mem_append_left _ hn) e (fine_hok rest rest e h.1),qN (fun n hn=>by rw [numss];exact List.mem_append_right _ hn) es (yU rest es h.2)⟩
end
mutual
def rput (l:List T) (nn:Int):T→T
 |mk k n m ps=>if k=28 then (l[n.toNat]?).getD zero else mk k (if n= -100 then nn else n) m (xK l nn ps)
def xK (l:List T) (nn:Int):List T→List T
 | []=>[]
 |e::es=>rput l nn e::xK l nn es
end
theorem rputs_map (l:List T) (nn:Int) (es:List T):xK l nn es=es.map (rput l nn):=by induction es<;>simp_all [xK]
mutual
theorem put_rput {mp:MP} {l:List T} (nn:Int):∀ t:T,hok (fun n=>∃ x,c7 mp n=some x∧l[n.toNat]? =some x) t→put mp nn t=rput l nn t
 |mk k n m es,h=>by
  rw [hok] at h
  rw [put,rput]
  split
  ·rename_i hk
   rw [if_pos hk] at h
   obtain ⟨x,h1,h2⟩:=h
   rw [h1,h2]
  ·rename_i hk
   rw [if_neg hk] at h
   rw [tX nn es h]
theorem tX {mp:MP} {l:List T} (nn:Int):∀ ts:List T,FV (fun n=>∃ x,c7 mp n=some x∧l[n.toNat]? =some x) ts→puts mp nn ts=xK l nn ts
 | [],_=>rfl
 |e::es,h=>by rw [puts,xK,put_rput nn e h.1,tX nn es h.2]
end
end T
theorem HV {nm:ByteArray} {f p:T} {b:Int} (hv:fK nm f p b=true) {t:T} {mp:MP} (hm:T.mat f t true []=(true,mp)):rG mp∧T.hok (fun n=>∃ x,c7 mp n=some x∧(t5 mp (eN mp+1).toNat)[n.toNat]? =some x) p∧T.hok (fun n=>0≤n∧n≤eN mp) p:=by
 obtain ⟨h1,_,h3⟩:=T.mat_goodO f t true [] yL
 rw [hm] at h1 h3
 have h3:=h3 rfl
 simp only at h1 h3
 simp only [fK,Bool.and_eq_true] at hv
 have hvis:=hv.2.2.2.2.2
 rw [T.visits_eq] at hvis
 simp only [Bool.and_eq_true,List.all_eq_true,List.contains_iff_mem] at hvis
 have hfp:=hvis.2.1
 have hin:=hvis.2.2
 have key:T.hok (fun n=>n∈T.nums p) p:=T.fine_hok _ _ p hfp
 refine ⟨h1,T.hok_mono (fun n hn=>?_) p key,T.hok_mono (fun n hn=>?_) p key⟩
 ·obtain ⟨x,hx⟩:=h3 n (hin n hn)
  obtain ⟨g1,g2,g3⟩:=h1.2.2 n x hx
  exact ⟨x,hx,g3 _ (by omega)⟩
 ·obtain ⟨x,hx⟩:=h3 n (hin n hn)
  obtain ⟨g1,g2,g3⟩:=h1.2.2 n x hx
  exact ⟨g1,g2⟩
def zc:List AV:=[.int .i64 0,.int .i64 0,.int .i64 0,.sl true []]
def qK (mp:MP) (N:Nat):List (List AV):=mp.foldl (fun l x=>l.set x.1.toNat (T.enc x.2)) (List.replicate N zc)
theorem I4 (mp:MP) (x:Int × T) (N:Nat):qK (mp++[x]) N=(qK mp N).set x.1.toNat (T.enc x.2):=by simp [qK]
theorem D8 (mp:MP) (N:Nat):(qK mp N).length=N:=by
 suffices h:∀ (mp:MP) (l:List (List AV)),(mp.foldl (fun l x=>l.set x.1.toNat (T.enc x.2)) l).length=l.length by rw [qK,h,List.length_replicate]
 intro mp
 induction mp with
 |nil=>intro l;rfl
 |cons x mp ih=>intro l;rw [List.foldl_cons,ih,List.length_set]
theorem t6 {Q:List AV→Prop} (hz:Q zc) (ht:∀ t:T,Q (T.enc t)) (mp:MP) (N:Nat):∀ e∈qK mp N,Q e:=by
 suffices h:∀ (mp:MP) (l:List (List AV)),(∀ e∈l,Q e)→∀ e∈mp.foldl (fun l x=>l.set x.1.toNat (T.enc x.2)) l,Q e by
  exact h mp _ fun e he=>by rw [(List.mem_replicate.1 he).2];exact hz
 intro mp
 induction mp with
 |nil=>intro l h;exact h
 |cons x mp ih=>
  intro l h
  refine ih _ fun e he=>?_
  rcases List.mem_or_eq_of_mem_set he with he|rfl
  ·exact h e he
  ·exact ht _
theorem N5 (mp:MP) (N:Nat):(qK mp N).map wkL=T.encs (t5 mp N):=by
 suffices h:∀ (mp:MP) (l:List (List AV)) (l':List T),l.map wkL=T.encs l'→(mp.foldl (fun l x=>l.set x.1.toNat (T.enc x.2)) l).map wkL=T.encs (mp.foldl (fun l x=>l.set x.1.toNat x.2) l') by
  refine h mp _ _ ?_
  rw [T.encs_map,List.map_replicate,List.map_replicate];rfl
 intro mp
 induction mp with
 |nil=>intro l l' h;exact h
 |cons x mp ih=>
  intro l l' h
  refine ih _ _ ?_
  rw [List.map_set,h,T.wk_enc,T.encs_map,T.encs_map,List.map_set]
theorem iL {l:List (List AV)} (h:∀ e∈l,inL aC e=true):inE aC l=true:=by
 induction l with
 |nil=>rfl
 |cons a l ih=>simp only [inE,h a (by simp),ih fun e he=>h e (by simp [he]),Bool.and_self]
theorem FM {mp:MP} {i:Nat} {x:Int × T} (h:mp[i]? =some x):eN (mp.take (i+1))=max (eN (mp.take i)) x.1:=by
 rw [List.take_add_one,h];exact oE _ _ x.2
theorem KQ:∀ (mp:MP), -1≤eN mp∧∀ x∈mp,x.1≤eN mp:=by
 suffices h:∀ (mp:MP) (m:Int),m≤mp.foldl (fun m x=>max m x.1) m∧∀ x∈mp,x.1≤mp.foldl (fun m x=>max m x.1) m from fun mp=>h mp (-1)
 intro mp
 induction mp with
 |nil=>intro m;exact ⟨Int.le_refl _,fun x h=>(by cases h)⟩
 |cons y mp ih=>
  intro m
  obtain ⟨h1,h2⟩:=ih (max m y.1)
  rw [List.foldl_cons]
  refine ⟨by omega,fun x hx=>?_⟩
  rcases List.mem_cons.1 hx with rfl|hx
  ·omega
  ·exact h2 x hx
theorem KP:∀ (mp:MP),(∀ x∈mp,x.1≤7)→eN mp≤7:=by
 suffices h:∀ (mp:MP) (m:Int),m≤7→(∀ x∈mp,x.1≤7)→mp.foldl (fun m x=>max m x.1) m≤7 from fun mp=>h mp (-1) (by decide)
 intro mp
 induction mp with
 |nil=>intro m h _;exact h
 |cons y mp ih=>intro m h hx;exact ih _ (by have:=hx y (by simp);show max m y.1≤7;omega) fun x h=>hx x (by simp [h])
def I6:Bool × MP→AV
 |(true,mp)=>.tup [.sl false (T.encs (t5 mp (eN mp+1).toNat)),.bool true]
 |(false,_)=>.tup [.sl false [],.bool false]
set_option maxHeartbeats 8000000 in
theorem JZ (f t:T) (hf:T.size f≤100000000000) (ht:T.size t≤1000000000000):Pure Tryz.prog G0 78 [.agg (T.enc f),.agg (T.enc t)] (I6 (T.mat f t true [])):=by
 have h1t:=T.enc_tree f
 have h2t:=T.enc_tree t
 have km:=fun rows h3=>PM 100000000000 (by decide) f (by omega) t ht true [] (fun y hy=>(by cases hy)) (by simp;omega) rows h3
 have km:=fun rows h3=>vU (args:=[.agg (T.enc f),.agg (T.enc t),.bool true,.sl true []]) [] (km rows h3) ⟨.inl rfl,.inl rfl,.inl rfl,.inr .toRsv,trivial⟩ (by simp)
 obtain ⟨hr1,hr2⟩:=T.rmat_mat f t true []
 obtain ⟨hO,_,_⟩:=T.mat_goodO f t true [] yL
 have hlen:=T.mat_len f t true []
 rcases hm:T.mat f t true [] with ⟨ok,mp⟩
 rw [hm] at hr1 hr2 hO hlen
 simp only at hr1 hr2 hO hlen
 rcases hrm:T.rmat f t true [] with ⟨ok',ma,mb⟩
 rw [hrm] at km hr1 hr2
 simp only at km hr1 hr2
 subst hr1
 obtain ⟨xa,xb,xc,xd,hxe⟩:=aI f
 obtain ⟨ya,yb,yc,yd,hye⟩:=aI t
 rw [hxe] at h1t km ⊢
 rw [hye] at h2t km ⊢
 have htree:inR aC (I6 (ok',mp))=true:=by cases ok'<;>simp only [I6,inR,inL,inE,T.encs_tree,Bool.and_self]
 refine aU hG0 Tryz.func78 rfl (by kernel_rfl) (by simp [Tryz.ntmps78]) (by simp only [inL,inR,Bool.true_and,Bool.and_true,Bool.and_eq_true] at h1t h2t ⊢;exact ⟨h1t,h2t⟩) (by exact htree) ?_
 simp only [Tryz.ntmps78,aH,Nat.reduceAdd]
 cases ok' with
 |false=>
  repeat' (first|(refine u'S ?_;simp only [wS,simprocAttr,Bool.not_true,Bool.not_false,↓aM,↓aF])|refine u'Q fun _ _=>?_|refine aO ?_|refine aP (fun hg=>?_) fun hg=>?_|(refine dW (km _ u'p) ?_;simp only [wS,simprocAttr,List.map_nil,List.append_nil,Bool.not_true,Bool.not_false,↓aM,↓aF]))
  refine eZ rfl ?_
  simp only [wS,simprocAttr]
  rfl
 |true=>
  have:=hr2 rfl
  simp only [Prod.mk.injEq] at this
  obtain ⟨rfl,rfl⟩:=this
  clear hrm hr2
  have hFs:=OZ mb
  have hFl:=M6 mb
  have hFt:=nO mb
  have hml:mb.length≤100000000000:=by simp only [List.length_nil] at hlen;omega
  have hub:eN mb≤7:=KP mb fun x hx=>(hO.1 x hx).2
  have hlb:=KQ mb
  have hFg:∀ (i:Nat) (a:Int) (x:T),mb[i]? =some (a,x)→(FE mb)[i]? =some (.int .i64 a::T.enc x):=fun i a x h=>by simp only [FE,List.getElem?_map,h,Option.map_some]
  repeat' (first|(refine u'S ?_;simp only [wS,simprocAttr,Bool.not_true,Bool.not_false,↓aM,↓aF])|refine u'Q fun _ _=>?_|refine aO ?_|refine aP (fun hg=>?_) fun hg=>?_|(refine dW (km _ u'p) ?_;simp only [wS,simprocAttr,List.map_nil,List.append_nil,Bool.not_true,Bool.not_false,↓aM,↓aF]))
  refine aJ (α:={i:Nat // i≤mb.length}) (fun i=>[(6,.sl false (FE mb)),(8,.int .i64 (eN (mb.take i.1))),(9,.int .i64 (i.1:Nat))]) (fun i=>[]) (fun i=>mb.length - i.1) ⟨0,Nat.zero_le _⟩ (bN [3] (kp []) hG0 (fun r hr=>absurd hr (Nat.not_lt_zero r)) ?_ ?_ ?_) ?_
  ·simp only [wS,simprocAttr,cS,Frz,and_true,true_or,List.take_zero,eN,List.foldl_nil];exact .inr (fB (v:=(FE mb).length - 1) rfl (by simp) hFs hFt)
  ·simp only [List.all_cons,List.all_nil,Bool.and_true,inR];exact aA hFt
  ·simp only [wS,simprocAttr]
   simp only [ToH,d7,and_true]
   exact ⟨rfl,rfl,rfl,rfl⟩
  ·rintro ⟨i,hi⟩ K hK
   try simp only at hi
   by_cases hlt:i<mb.length
   ·have c1:decide (((i:Nat):Int)<(((FE mb).length:Nat):Int))=true:=by simp;omega
    obtain ⟨⟨a,x⟩,hx⟩:∃ x,mb[i]? =some x:=⟨_,List.getElem?_eq_getElem hlt⟩
    have gx:=hFg i a x hx
    have hA:i<(FE mb).length:=by omega
    have e3:=aL (k:=i) hlt (by omega)
    have htk:eN (mb.take (i+1))=if a > eN (mb.take i) then a else eN (mb.take i):=by rw [FM hx];simp only;split<;>omega
    obtain ⟨za,zb,zc',zd,hze⟩:=aI x
    rw [hze] at gx
    repeat' (first|(refine u'S ?_;simp only [wS,simprocAttr,gx,hA,c1,e3])|refine u'Q fun _ _=>?_|refine aO ?_|refine aP (fun hg=>?_) fun hg=>?_|fail)
    refine hK.go ⟨i+1,hlt⟩ (Weak.ref ⟨?_,.inr ⟨by first|exact Nat.zero_le _|exact Nat.le_refl _|simp,?_,fun g cs hg=>aD (hG0 g cs hg),?_,?_⟩⟩) (by simp only;omega)
    ·simp only [wS,simprocAttr,htk];try exact rfl
    ·exact u'p
    ·intro z hz
     simp only [List.mem_cons,List.not_mem_nil,or_false] at hz
     rcases hz with rfl|rfl|rfl<;>first|rfl|(simp only [inR];exact aA hFt)
    ·simp only [List.all_cons,List.all_nil,Bool.and_true,Bool.and_eq_true];try exact rfl
   ·have c1:decide (((i:Nat):Int)<(((FE mb).length:Nat):Int))=false:=by simp;omega
    obtain rfl:i=mb.length:=by omega
    rw [List.take_length]
    obtain ⟨n,hn⟩:∃ n:Nat,(n:Int)=eN mb+1:=⟨(eN mb+1).toNat,by omega⟩
    have hn8:n≤8:=by omega
    have en:IntKind.i64.wrap (eN mb+1)=((n:Nat):Int):=by rw [cB (by omega) (by omega),hn]
    have hto:(eN mb+1).toNat=n:=by omega
    have hnb:(n*49≤140737488355328)=True:=eq_true (by omega)
    repeat' (first|(refine u'S ?_;simp only [wS,simprocAttr,c1,en,hnb,Nat.le_refl])|refine u'Q fun _ _=>?_|refine aO ?_|refine aP (fun hg=>?_) fun hg=>?_|fail)
    refine aJ (α:={i:Nat // i≤mb.length}) (fun i=>[(6,.sl false (FE mb)),(10,.osl 0 0 0 n 4 true),(11,.int .i64 (i.1:Nat))]) (fun i=>[.cells 0 (qK (mb.take i.1) n).flatten]) (fun i=>mb.length - i.1) ⟨0,Nat.zero_le _⟩ (Weak.ref ⟨?_,.inl ?_⟩) ?_
    ·exact u'p
    ·simp only [wS,simprocAttr,List.take_zero];try exact rfl
    ·clear hK hi
     rintro ⟨i,hi⟩ K hK
     try simp only at hi
     have hC4:=t6 (Q:=fun e=>e.length=4) rfl T.enc_len (mb.take i) n
     have hCl:=D8 (mb.take i) n
     by_cases hlt:i<mb.length
     ·have c1:decide (((i:Nat):Int)<(((FE mb).length:Nat):Int))=true:=by simp;omega
      obtain ⟨⟨a,x⟩,hx⟩:∃ x,mb[i]? =some x:=⟨_,List.getElem?_eq_getElem hlt⟩
      have gx:=hFg i a x hx
      have hA:i<(FE mb).length:=by omega
      have e3:=aL (k:=i) hlt (by omega)
      have htk:qK (mb.take (i+1)) n=(qK (mb.take i) n).set a.toNat (T.enc x):=by
       rw [List.take_add_one,hx];exact I4 _ _ n
      have ha0:=(hO.1 _ (List.mem_of_getElem? hx)).1
      have ha1:=hlb.2 _ (List.mem_of_getElem? hx)
      simp only at ha0 ha1
      obtain ⟨ka,rfl⟩:∃ k:Nat,a=k:=⟨a.toNat,by omega⟩
      have hkn:ka<n:=by omega
      have hst:=u4 hC4 (i:=ka) (by omega) (T.enc_len x)
      have hfl:(qK (mb.take i) n).flatten.length=n*4:=by rw [cG hC4,hCl]
      have hb4:ka*4+4≤n*4:=by omega
      rw [Int.toNat_natCast] at htk
      rw [← htk] at hst
      have hxt:=t6 (Q:=fun e=>inL aC e=true) rfl T.enc_tree (mb.take (i+1)) n
      obtain ⟨za,zb,zc',zd,hze⟩:=aI x
      rw [hze] at gx hst
      repeat' (first|(refine u'S ?_;simp only [wS,simprocAttr,gx,hA,hkn,hfl,hb4,c1,e3])|refine u'Q fun _ _=>?_|refine aO ?_|refine aP (fun hg=>?_) fun hg=>?_|fail)
      refine hK.go ⟨i+1,hlt⟩ (Weak.ref ⟨?_,.inr ⟨by first|exact Nat.zero_le _|exact Nat.le_refl _|simp,?_,fun g cs hg=>aD (hG0 g cs hg),?_,?_⟩⟩) (by simp only;omega)
      ·exact u'p
      ·simp only [wS,simprocAttr,hst];try exact rfl
      ·intro z hz
       simp only [List.mem_cons,List.not_mem_nil,or_false] at hz
       rcases hz with rfl|rfl|rfl<;>first|rfl|(simp only [inR];exact aA hFt)
      ·simp only [List.all_cons,List.all_nil,Bool.and_true,Bool.and_eq_true];try exact cF (aA (iL hxt))
     ·have c1:decide (((i:Nat):Int)<(((FE mb).length:Nat):Int))=false:=by simp;omega
      obtain rfl:i=mb.length:=by omega
      rw [List.take_length] at hC4 hCl ⊢
      have hxt:=iL (t6 (Q:=fun e=>inL aC e=true) rfl T.enc_tree mb n)
      repeat' (first|(refine u'S ?_;simp only [wS,simprocAttr,c1])|refine u'Q fun _ _=>?_|refine lM ?_|refine aR (fun hg=>?_) fun hg=>?_|fail)
      refine Cont.go (by assumption) ?_
      repeat' (first|(refine u'S ?_;simp only [wS,simprocAttr,c1])|refine u'Q fun _ _=>?_|refine lM ?_|refine aR (fun hg=>?_) fun hg=>?_|fail)
      refine Cont.go (by assumption) (eH (bN [0] (kp []) (l:=[(10,.sl false (qK mb n))]) (h:=[]) hG0 (fun r hr=>absurd hr (Nat.not_lt_zero r)) ?_ ?_ ?_) ?_)
      ·simp only [wS,simprocAttr,cS,Frz,and_true,true_or];exact (.osl (cs:=(qK mb n).flatten) (by simp) rfl (by rw [D8]) hC4 (by rw [List.drop_zero,List.take_of_length_le (by rw [cG hC4,hCl];exact Nat.le_refl _)]) hxt)
      ·simp only [List.all_cons,List.all_nil,Bool.and_true,inR];exact aA hxt
      ·simp only [wS,simprocAttr]
       simp only [ToH,and_true];rfl
      repeat' (first|(refine u'S ?_;simp only [wS,simprocAttr])|refine u'Q fun _ _=>?_|refine aV ?_|refine aR (fun hg=>?_) fun hg=>?_|fail)
      refine eZ rfl ?_
      simp only [wS,simprocAttr]
      rw [AM.wk]
      simp only [wkL,AM.wk,dI,N5,I6,hto]
end Go.Proofs.YtggflhbigolakaaGreatDoor
