import Derived.Test.YtggflhbigolakaaGreatDoorXA
set_option linter.unusedVariables false
set_option linter.unusedSimpArgs false
namespace Go.Proofs.YtggflhbigolakaaGreatDoor
open Go.AM
attribute [local irreducible] AWp aY bC bI bU bW aN aS bL
set_option maxRecDepth 100000
set_option maxHeartbeats 8000000 in
theorem UL (M:List Si) (hM:M.length≤1000) (hp:∀ s∈M,s.1.length≤1000000000000):∀ rows:Nat→ARow,rows 0=.none→dH Tryz.prog G0 63 [mV M] rows [0] ⟨.agg [rv 0 ((mC M).length - 1) 2 (mC M)],[(0,rvR ((mC M).length - 1) (mC M))]⟩:=by
 intro rows h0
 have ht:=cK M
 have hn:=gQ M
 have hg:=fun (i:Nat) (s:Si)=>jG (M:=M) (i:=i) (s:=s)
 have h2:=oI M
 simp only [mV]
 generalize mC M=MC at ht hn hg h2 ⊢
 refine cD [.none] hG0 Tryz.func63 rfl (by kernel_rfl) (by simp [Tryz.ntmps63]) ?_ ?_ ?_ ?_ ?_ ?_ ?_
 ·intro r hr
  simp only [List.mem_cons,List.not_mem_nil,or_false] at hr
  rcases hr with rfl
  ·exact h0.symm
 ·intro r hr
  match r,hr with
  |0,hr=>exact absurd (by simp) hr
  |r+1,_=>simp
 ·simp only [inL,inR,List.length_cons,List.length_nil,Nat.reduceAdd,Nat.reduceLT,decide_true,Bool.true_and,Bool.and_true,Bool.and_eq_true];exact aA ht
 ·intro r hr
  simp only [List.mem_cons,List.not_mem_nil,or_false] at hr
  rcases hr with rfl
  ·rw [h0];exact rfl
 ·intro r hr h
  simp only [List.mem_cons,List.not_mem_nil,or_false] at hr
  simp only [List.length_cons,List.length_nil] at h
  omega
 ·simp
 simp only [Tryz.ntmps63,aH,Nat.reduceAdd,List.length_cons,List.length_nil]
 repeat' (first|(refine u'S ?_;simp only [wS,simprocAttr])|refine u'Q fun _ _=>?_|refine aV ?_|refine aR (fun hg=>?_) fun hg=>?_|fail)
 refine aJ (α:={i:Nat // i≤M.length}) (fun i=>[(1,.ptr 1 0 0),(2,.ptr 2 0 0),(3,.ptr 3 0 0),(7,.sl false MC),(8,.int .i64 (MC.length:Nat)),(9,.int .i64 (i.1:Nat))]) (fun i=>[rvR ((MC.take i.1).length - 1) (MC.take i.1),.cells 0 [.sl false MC],.cells 0 [.sl true []],.cells 0 [rv 0 ((MC.take i.1).length - 1) 2 (MC.take i.1)]]) (fun i=>M.length - i.1) ⟨0,Nat.zero_le _⟩ (bN [] (kp [0,1,2,3]) hG0 (fun r hr=>(by simp only [kp];match r,hr with|0,_=>rfl)) ?_ ?_ ?_) ?_
 ·simp only [wS,simprocAttr,cS,Frz,and_true,true_or]
 ·simp only [List.all_cons,List.all_nil,Bool.and_true,Bool.and_eq_true,inR,aA ht];exact ⟨rfl,rfl,rfl⟩
 ·simp only [wS,simprocAttr,List.take_zero,dS,dM]
  simp only [ToH,and_true]
  exact ⟨.inr ⟨rfl,rfl,.inr ⟨.inr rfl,.inl rfl⟩⟩,kr rfl (aD (by simp only [inL,inR,ht,Bool.and_self])) (by simp),kr rfl rfl (by simp),.inr ⟨rfl,rfl,.inr ⟨.inl (by simp),.inr ⟨0,_,_,rfl,rfl,.inr .toRsv,trivial⟩⟩⟩⟩
 ·rintro ⟨i,hi⟩ K hK
  try simp only at hi
  have hal:(MC.take i).length=i:=by rw [List.length_take];omega
  have h2':∀ e∈MC.take i,e.length=2:=fun e he=>h2 e (List.mem_of_mem_take he)
  have hvv:=BZ (l:=MC.take i)
  by_cases hlt:i<M.length
  ·have c1:decide (((i:Nat):Int)<((MC.length:Nat):Int))=true:=by simp;omega
   have hA:i<MC.length:=by omega
   have e3:=aL (k:=i) hlt (by omega)
   obtain ⟨s,hs⟩:∃ s,M[i]? =some s:=⟨_,List.getElem?_eq_getElem hlt⟩
   have gs:=hg i s hs
   have kc:=U5 s.1 (hp s (List.mem_of_getElem? hs))
   have his:inE aC (aE s.1)=true:=aW _
   have htk:MC.take (i+1)=MC.take i++[[.sl false (aE s.1),.int .i64 s.2]]:=by rw [List.take_add_one,gs];rfl
   have hml:(MC.take i++[[AV.sl false (aE s.1),.int .i64 s.2]]).length - 1=(MC.take i).length:=by simp
   have htt:inE aC (MC.take i++[[AV.sl false (aE s.1),.int .i64 s.2]])=true:=by rw [← htk];exact DO ht _
   generalize aE s.1=is at gs kc htk hml his htt
   repeat' (first|(refine u'S ?_;simp only [wS,simprocAttr,gs,hA,c1,e3,↓aM,↓aF])|refine u'Q fun _ _=>?_|refine aO ?_|refine aP (fun hg=>?_) fun hg=>?_|refine u'G ?_|refine b8 (v':=(MC.take i).length) (es:=[[.sl false is,.int .i64 s.2]]) (by':=32) (by kernel_rfl) u'p hvv h2' (by simp [cJ]) (by simp) (by simp only [List.length_cons,List.length_nil];omega) (u'T ?_))
   refine hK.go ⟨i+1,hlt⟩ (Weak.ref ⟨?_,.inr ⟨by first|exact Nat.zero_le _|exact Nat.le_refl _|simp,?_,fun g cs hg=>aD (hG0 g cs hg),?_,?_⟩⟩) (by simp only;omega)
   ·simp only [wS,simprocAttr,↓aM,↓aF];try exact rfl
   ·simp only [wS,simprocAttr,htk,hml];try exact rfl
   ·intro z hz
    simp only [List.mem_cons,List.not_mem_nil,or_false] at hz
    rcases hz with rfl|rfl|rfl|rfl|rfl|rfl<;>first|rfl|(simp only [inR];exact aA ht)
   ·simp only [List.all_cons,List.all_nil,Bool.and_true,Bool.and_eq_true];try exact ⟨bQ (aA (by rw [htk];exact htt)),aD (by simp only [inL,inR,ht,Bool.and_self]),rfl,(by simp only [aG,inL,Bool.and_true];exact cH rfl)⟩
  ·have c1:decide (((i:Nat):Int)<((MC.length:Nat):Int))=false:=by simp;omega
   obtain rfl:i=M.length:=by omega
   have hta:MC.take M.length=MC:=List.take_of_length_le (by omega)
   rw [hta]
   repeat' (first|(refine u'S ?_;simp only [wS,simprocAttr,c1])|refine u'Q fun _ _=>?_|refine aV ?_|refine aR (fun hg=>?_) fun hg=>?_|fail)
   refine bV (v:=.agg [rv 0 (MC.length - 1) 2 MC]) rfl (by simp only [wS,simprocAttr,↓aM,↓aF];try exact rfl) ⟨.inl rfl,?_,fun r hr=>?_⟩
   ·simp only [inR,inL,Bool.and_true]
    exact cH rfl
   ·obtain rfl:r=0:=by simpa using hr
    simp only [wS,simprocAttr]
    first|exact ⟨rfl,bQ (aA ht)⟩|exact bQ (aA ht)
def TH (O:List OpT) (s:Int):Int:=match atO O s with
 |some o=>o.2.2.2
 |none=>0
def bkS (O:List OpT) (s:Si):Si:=(s.1,TH O s.2)
def inO (O:List OpT) (b:Int):Bool:=decide (0≤b)&&decide (b<(O.length:Int))
def TJ (c:T) (O:List OpT) (L:List Si):Option T→List Si × Int
 |some X=>if T.cmp X c=0 then (L,0) else ([],14)
 |none=>([],14)
def TF (c:T) (O:List OpT) (M:List Si):List Si × Int:=if dE M=true then (match fX c O c M with
  |none=>([],6)
  |some W=>if M.all (fun s=>inO O (TH O s.2))=true then TJ c O (M.map (bkS O)) (fX W O W (M.map (bkS O))) else ([],6)) else ([],1)
def TZ (r:List Si × Int):AV:=.tup [.agg [.sl false (mC r.1)],.int .i64 r.2]
theorem TS (r:List Si × Int):AM.wk (TZ r)=TZ r:=by
 have h:=ON r.1
 simp only [mV] at h
 rw [TZ,AM.wk,wkL,h,wkL,AM.wk,wkL]
theorem TY (r:List Si × Int):inR aC (TZ r)=true:=by
 have h:=cK r.1
 simp only [TZ,inR,inL,h,Bool.and_self]
theorem UW (O:List OpT) (M:List Si):(M.map (bkS O)).map Prod.fst=M.map Prod.fst:=by
 rw [List.map_map];rfl
theorem TI (O:List OpT) (M:List Si):dE (M.map (bkS O))=dE M:=by
 rw [dE,dE,UW,List.length_map]
theorem TQ {O:List OpT} {s:Int} {o:OpT} (h:atO O s=some o):TH O s=o.2.2.2:=by rw [TH,h]
def TD (O:List OpT) (M:List Si) (i:Nat):List Si:=(M.take i).map (bkS O)++M.drop i
theorem UA (O:List OpT) (M:List Si) (i:Nat):(TD O M i).length=M.length:=by
 rw [TD,List.length_append,List.length_map,List.length_take,List.length_drop];omega
theorem U1 (O:List OpT) (M:List Si):TD O M 0=M:=rfl
theorem UC (O:List OpT) (M:List Si):TD O M M.length=M.map (bkS O):=by
 rw [TD,List.take_length,List.drop_length,List.append_nil]
theorem UB {O:List OpT} {M:List Si} {i:Nat} {s:Si} (h:M[i]? =some s):(TD O M i)[i]? =some s:=by
 have hl:=(List.getElem?_eq_some_iff.1 h).1
 rw [TD,List.getElem?_append_right (by rw [List.length_map,List.length_take];omega),List.length_map,List.length_take,Nat.min_eq_left (by omega),Nat.sub_self,List.getElem?_drop,Nat.add_zero,h]
theorem U2 {O:List OpT} {M:List Si} {i:Nat} {s:Si} (h:M[i]? =some s):TD O M (i+1)=(TD O M i).set i (bkS O s):=by
 obtain ⟨h1,h2⟩:=List.getElem?_eq_some_iff.1 h
 have ht:M.take (i+1)=M.take i++[s]:=by rw [List.take_add_one,h];rfl
 have hd:M.drop i=s::M.drop (i+1):=by rw [List.drop_eq_getElem_cons h1,h2]
 have hl:((M.take i).map (bkS O)).length=i:=by rw [List.length_map,List.length_take];omega
 rw [TD,TD,ht,hd,List.map_append,List.map_cons,List.map_nil,List.append_assoc,List.set_append_right _ _ (by omega),hl,Nat.sub_self,List.set_cons_zero];rfl
theorem UD {L:List (List AV)} (h:∀ e∈L,e.length=2) {i:Nat} {a b b':AV} (hx:L[i]? =some [a,b]):List.take (i*2+1) L.flatten++[b']++List.drop (i*2+2) L.flatten=(L.set i [a,b']).flatten:=by
 induction L generalizing i with
 |nil=>simp at hx
 |cons x L ih=>
  have ha:x.length=2:=h x (by simp)
  cases i with
  |zero=>
   simp only [List.getElem?_cons_zero,Option.some.injEq] at hx
   subst hx
   rfl
  |succ i=>
   have:=ih (fun e he=>h e (by simp [he])) (by simpa using hx)
   simp only [List.set_cons_succ,List.flatten_cons]
   rw [← this,show (i+1)*2+1=x.length+(i*2+1) by omega,show (i+1)*2+2=x.length+(i*2+2) by omega,List.take_length_add_append,List.drop_length_add_append]
   simp only [List.append_assoc]
theorem UX {M:List Si} {i:Nat} {s:Si}:mC (M.set i s)=(mC M).set i [.sl false (aE s.1),.int .i64 s.2]:=by rw [mC,mC,List.map_set]
set_option maxHeartbeats 32000000 in
theorem UN (c : T) (hc : T.size c ≤ 1000000000000) (O : List OpT) (hO : ∀ o ∈ O, OpB o) (M : List Si) (hM : M.length ≤ 1000) (hp : ∀ s ∈ M, s.1.length ≤ 1000000000000) (hW : dE M = true → ∀ W, fX c O c M = some W → T.size W ≤ 1000000000000) : Pure Tryz.prog G0 27 [.agg (T.enc c), .sl false (O.map opC), mV M] (TZ (TF c O M)) := by
 have hp2:∀ s∈M,s.1.length≤2000000000000:=fun s hs=>Nat.le_trans (hp s hs) (by decide)
 have kmk:=Q2 c hc O hO M (by omega) hp2
 have kcl:=UL M hM hp
 have hst:∀ W,fX c O c M=some W→∀ s∈M,∃ (j:Nat) (o:OpT),s.2=j∧O[j]? =some o:=fun W h s hs=>by
  obtain ⟨u,hu⟩:=TG h s hs
  obtain ⟨n,o,_,ho,_,_⟩:=qC hu
  obtain ⟨j,hj,hoj⟩:=EQ ho
  exact ⟨j,o,hj,hoj⟩
 have htr:=T.enc_tree c
 have hOt:=eI O
 have hOl:(O.map opC).length=O.length:=List.length_map _
 have hOg:∀ (j:Nat) (o:OpT),O[j]? =some o→(O.map opC)[j]? =some (opC o):=fun j o h=>by rw [List.getElem?_map,h];rfl
 have ht:=cK M
 have hn:=gQ M
 have h2:=oI M
 obtain ⟨res,hres⟩:∃ r,r=TF c O M:=⟨_,rfl⟩
 have hrt:=TY res
 have hrw:=TS res
 rw [← hres]
 have kmk2:dE M=true→∀ W,fX c O c M=some W→Pure Tryz.prog G0 13 [.agg (T.enc W),.sl false (O.map opC),.agg [.sl false (mC (M.map (bkS O)))]] (jS W O (M.map (bkS O))):=fun ha W h=>by
  have:=Q2 W (hW ha W h) O hO (M.map (bkS O)) (by rw [List.length_map];omega) (fun s hs=>by obtain ⟨x,hx,rfl⟩:=List.mem_map.1 hs;exact hp2 x hx)
  simpa only [mV] using this
 have hcm:∀ X W:T,T.size X≤100000000000000000→Pure Tryz.prog G0 23 [.agg (T.enc X),.agg (T.enc c)] (.int .i64 (T.cmp X c)):=fun X W h=>sX _ X c (Nat.le_refl _) h
 have hXs:∀ W X,fX c O c M=some W→fX W O W (M.map (bkS O))=some X→dE M=true→T.size X≤100000000000000000:=fun W X h h' ha=>by
  obtain ⟨f,nd,H,rfl⟩:=TK (by rw [TI];exact ha) h' (fun s hs=>by obtain ⟨x,hx,rfl⟩:=List.mem_map.1 hs;exact hp2 x hx)
  have h1:=qG (f:=f) H.ap H.sb
  have h2:=JC (k:=32) H.sz
  have h3:=MH H.ap H.sb
  have h4:=H.len
  have h5:=hW ha W h
  omega
 simp only [mV] at kmk kcl ⊢
 generalize hMC:mC M=MC at ht hn h2 kmk kcl ⊢
 have hgt:=fun (i:Nat) (s:Si) (h:M[i]? =some s)=>jG (UB (O:=O) h)
 generalize hOL:O.map opC=OL at hOt hOl hOg kmk kmk2 ⊢
 obtain ⟨ca,cb,cc,cd,hce⟩:=aI c
 rw [hce] at kmk htr ⊢
 simp only [hce] at hcm
 refine aU hG0 Tryz.func27 rfl (by kernel_rfl) (by simp [Tryz.ntmps27]) (by simp only [inL,inR,hOt,ht,Bool.true_and,Bool.and_true] at htr ⊢;exact htr) (by exact hrt) ?_
 simp only [Tryz.ntmps27,aH,Nat.reduceAdd]
 refine eH (bN [] (kp [0]) (l:=[(0,.agg [.int .i64 ca,.int .i64 cb,.int .i64 cc,.sl false cd]),(1,.sl false OL),(2,.agg [.sl false MC])]) (h:=[.none]) hG0 (fun r hr=>absurd hr (Nat.not_lt_zero r)) ?_ ?_ ?_) ?_
 ·simp only [wS,simprocAttr,cS,Frz,and_true,true_or]
 ·simp only [inL,inR,Bool.true_and,Bool.and_true] at htr
  simp only [List.all_cons,List.all_nil,Bool.and_true,inL,inR,Bool.true_and,aA htr,aA hOt,aA ht,Bool.and_self]
 ·simp only [wS,simprocAttr]
  simp only [ToH,and_true]
 rw [jS] at kmk
 rw [TF] at hres
 cases hA:dE M with
 |false=>
  rw [hA] at kmk hres
  simp only [Bool.false_eq_true,if_false] at kmk hres
  simp only [OB] at kmk
  have e0:((1:Int) != 0)=true:=rfl
  repeat' (first|(refine u'S ?_;simp only [wS,simprocAttr,e0,Bool.not_true,Bool.not_false])|refine u'Q fun _ _=>?_|refine aO ?_|refine aP (fun hg=>?_) fun hg=>?_|refine u'G ?_|fail)
  refine aX (v:=.agg [.sl true []]) rfl ?_ ?_
  ·simp only [wS,simprocAttr]
  ·simp only [wS,simprocAttr]
   rw [hres];rfl
 | true =>
  rw [hA] at kmk hres
  simp only [if_true] at kmk hres
  cases hF:fX c O c M with
  |none=>
   rw [hF] at kmk hres
   simp only [JV,OB] at kmk
   simp only at hres
   have e0:((6:Int) != 0)=true:=rfl
   repeat' (first|(refine u'S ?_;simp only [wS,simprocAttr,e0,Bool.not_true,Bool.not_false])|refine u'Q fun _ _=>?_|refine aO ?_|refine aP (fun hg=>?_) fun hg=>?_|refine u'G ?_|fail)
   refine aX (v:=.agg [.sl true []]) rfl ?_ ?_
   ·simp only [wS,simprocAttr]
   ·simp only [wS,simprocAttr]
    rw [hres];rfl
  | some W =>
   rw [hF] at kmk hres
   simp only at hres
   simp only [JV] at kmk
   have kmk':=kmk2 hA W hF
   rw [jS,TI,hA] at kmk'
   simp only [if_true] at kmk'
   have hXs':=fun X h=>hXs W X hF h hA
   have hst':=hst W hF
   clear kmk2 hXs hst hW
   have hwt:=T.enc_tree W
   obtain ⟨wa,wb,wc,wd,hwe⟩:=aI W
   rw [hwe] at kmk hwt kmk'
   have e0:((0:Int) != 0)=false:=rfl
   have hLt:=cK (M.map (bkS O))
   generalize hLQ:mC (M.map (bkS O))=LQ at kmk' hLt
   by_cases hM0:M=[]
   ·subst hM0
    have hLQ0:LQ=[]:=by rw [← hLQ];rfl
    have hMC0:MC=[]:=by rw [← hMC];rfl
    subst hLQ0
    subst hMC0
    simp only [List.all_nil,if_true] at hres
    simp only [dS,dM] at kcl
    repeat' (first|(refine u'S ?_;simp only [wS,simprocAttr,e0,Bool.not_true,Bool.not_false,List.length_nil])|refine u'Q fun _ _=>?_|refine aO ?_|refine aP (fun hg=>?_) fun hg=>?_|(refine bH hG0 (kmk) ?_;simp only [wS,simprocAttr,e0,Bool.not_true,Bool.not_false])|(refine dW (kcl _ u'p) ?_;simp only [wS,simprocAttr,e0,Bool.not_true,Bool.not_false]))
    refine aJ (α:=Unit) (fun _=>[(1,.sl false OL),(3,.ptr 1 0 0),(5,.ptr 2 0 0),(6,.ptr 3 0 0),(7,.int .i64 0),(8,.ptr 4 0 0),(9,.int .i64 0),(10,.ptr 5 0 0),(30,.rsv 0),(31,.int .i64 0),(32,.int .i64 0)]) (fun _=>[.none,.cells 0 [.int .i64 ca,.int .i64 cb,.int .i64 cc,.sl false cd],.cells 0 [.sl false []],.cells 0 [.sl true []],.cells 0 [.int .i64 wa,.int .i64 wb,.int .i64 wc,.sl false wd],.cells 0 [.rsv 0]]) (fun _=>0) () (Weak.ref ⟨?_,.inl ?_⟩) ?_
    ·exact u'p
    ·exact u'p
    ·rintro _ K hK
     have c1:decide ((0:Int)<0)=false:=rfl
     refine eH (bN [0] (kp [1,2,3,4,5]) (l:=[(1,.sl false OL),(3,.ptr 1 0 0),(5,.ptr 2 0 0),(6,.ptr 3 0 0),(7,.int .i64 0),(8,.ptr 4 0 0),(9,.int .i64 0),(10,.ptr 5 0 0),(31,.int .i64 0),(32,.int .i64 0)]) (h:=[.none,.cells 0 [.int .i64 ca,.int .i64 cb,.int .i64 cc,.sl false cd],.cells 0 [.sl false []],.cells 0 [.sl true []],.cells 0 [.int .i64 wa,.int .i64 wb,.int .i64 wc,.sl false wd],.cells 0 [.sl false []]]) hG0 (fun r hr=>absurd hr (Nat.not_lt_zero r)) ?_ ?_ ?_) ?_
     ·simp only [wS,simprocAttr,cS,Frz,and_true,true_or]
     ·simp only [List.all_cons,List.all_nil,inR,aA hOt,Bool.and_true,Bool.true_and];rfl
     ·simp only [wS,simprocAttr]
      simp only [ToH,and_true]
      exact ⟨.inl rfl,kr rfl (aD htr) (by simp),kr rfl rfl (by simp),kr rfl rfl (by simp),kr rfl (aD hwt) (by simp),.inr ⟨rfl,rfl,.inr ⟨.inl (by simp),.inr ⟨0,_,_,rfl,rfl,.inr .rsv,trivial⟩⟩⟩⟩
     ·cases hX:fX W O W (([]:List Si).map (bkS O)) with
      |none=>
       rw [hX] at kmk' hres
       simp only [JV,OB] at kmk'
       simp only [TJ] at hres
       have e1:((6:Int) != 0)=true:=rfl
       repeat' (first|(refine u'S ?_;simp only [wS,simprocAttr,c1,e0,e1,Bool.not_true,Bool.not_false])|refine u'Q fun _ _=>?_|refine aO ?_|refine aP (fun hg=>?_) fun hg=>?_|refine u'G ?_|fail)
       refine aX (v:=.agg [.sl true []]) rfl ?_ ?_
       ·simp only [wS,simprocAttr]
       ·simp only [wS,simprocAttr]
        rw [hres];rfl
      |some X=>
       rw [hX] at kmk' hres
       simp only [JV] at kmk'
       have kcx:=hcm X W (hXs' X hX)
       simp only [TJ] at hres
       have hXT:=T.enc_tree X
       obtain ⟨xa,xb,xc,xd,hxe⟩:=aI X
       rw [hxe] at kmk' kcx hXT
       have e1:True:=trivial
       by_cases hz:T.cmp X c=0
       ·rw [hz] at kcx
        rw [if_pos hz] at hres
        repeat' (first|(refine u'S ?_;simp only [wS,simprocAttr,c1,e0,e1,Bool.not_true,Bool.not_false])|refine u'Q fun _ _=>?_|refine aO ?_|refine aP (fun hg=>?_) fun hg=>?_|refine u'G ?_|fail)
        refine aX (v:=.agg [.sl false []]) rfl ?_ ?_
        ·simp only [wS,simprocAttr]
        ·simp only [wS,simprocAttr]
         rw [hres]
         rfl
       ·rw [if_neg hz] at hres
        generalize T.cmp X c=cv at kcx hz
        have e2:(cv != 0)=true:=by simp [hz]
        repeat' (first|(refine u'S ?_;simp only [wS,simprocAttr,c1,e0,e1,Bool.not_true,Bool.not_false,e2])|refine u'Q fun _ _=>?_|refine aO ?_|refine aP (fun hg=>?_) fun hg=>?_|refine u'G ?_|fail)
        refine aX (v:=.agg [.sl true []]) rfl ?_ ?_
        ·simp only [wS,simprocAttr]
        ·simp only [wS,simprocAttr]
         rw [hres];rfl
   ·have hMCne : MC ≠ [] := fun e => hM0 (List.eq_nil_of_length_eq_zero (by rw [← hn, e]; rfl))
    have hrv:rv 0 (MC.length - 1) 2 MC=.osl 0 (MC.length - 1) 0 MC.length 2 false:=if_neg hMCne
    have hrR:rvR (MC.length - 1) MC=.cells (MC.length - 1) MC.flatten:=if_neg hMCne
    rw [hrv,hrR] at kcl
    repeat' (first|(refine u'S ?_;simp only [wS,simprocAttr,e0,Bool.not_true,Bool.not_false,List.length_nil])|refine u'Q fun _ _=>?_|refine aO ?_|refine aP (fun hg=>?_) fun hg=>?_|(refine bH hG0 (kmk) ?_;simp only [wS,simprocAttr,e0,Bool.not_true,Bool.not_false])|(refine dW (kcl _ u'p) ?_;simp only [wS,simprocAttr,e0,Bool.not_true,Bool.not_false]))
    refine aJ (α:={i:Nat // i≤M.length∧∀ (j:Nat) (x:Si),j<i→M[j]? =some x→inO O (TH O x.2)=true}) (fun i=>[(1,.sl false OL),(3,.ptr 1 0 0),(5,.ptr 2 0 0),(6,.ptr 3 0 0),(7,.int .i64 0),(8,.ptr 4 0 0),(9,.int .i64 0),(10,.ptr 5 0 0),(30,.osl 0 (MC.length - 1) 0 MC.length 2 false),(31,.int .i64 (MC.length:Nat)),(32,.int .i64 (i.1:Nat))]) (fun i=>[.cells (MC.length - 1) (mC (TD O M i.1)).flatten,.cells 0 [.int .i64 ca,.int .i64 cb,.int .i64 cc,.sl false cd],.cells 0 [.sl false MC],.cells 0 [.sl true []],.cells 0 [.int .i64 wa,.int .i64 wb,.int .i64 wc,.sl false wd],.cells 0 [.osl 0 (MC.length - 1) 0 MC.length 2 false]]) (fun i=>M.length - i.1) ⟨0,Nat.zero_le _,fun j x h=>by omega⟩ (Weak.ref ⟨?_,.inl ?_⟩) ?_
    ·exact u'p
    ·simp only [wS,simprocAttr,U1,hMC];try exact rfl
    ·rintro ⟨i,hi,hall⟩ K hK
     try simp only at hi hall
     by_cases hlt:i<M.length
     ·have c1:decide (((i:Nat):Int)<((MC.length:Nat):Int))=true:=by simp;omega
      have hA':i<MC.length:=by omega
      have e3:=aL (k:=i) hlt (by omega)
      obtain ⟨s,hs⟩:∃ s,M[i]? =some s:=⟨_,List.getElem?_eq_getElem hlt⟩
      obtain ⟨j,o,hj,hoj⟩:=hst' s (List.mem_of_getElem? hs)
      have gs:=hgt i s hs
      have hin:inO O (TH O s.2)=inO O o.2.2.2:=by rw [TQ (o:=o) (by rw [hj,atO,if_pos (by omega)];simpa using hoj)]
      have hbs:bkS O s=(s.1,o.2.2.2):=by rw [bkS,TQ (o:=o) (by rw [hj,atO,if_pos (by omega)];simpa using hoj)]
      have h2i:=oI (TD O M i)
      have hti:=cK (TD O M i)
      have hti':=cK (TD O M (i+1))
      have hlen:(mC (TD O M i)).length=MC.length:=by rw [gQ,UA,hn]
      have hnx:mC (TD O M (i+1))=(mC (TD O M i)).set i [.sl false (aE s.1),.int .i64 o.2.2.2]:=by rw [U2 hs,UX,hbs]
      have go:=hOg j o hoj
      have hjl:j<OL.length:=by have:=(List.getElem?_eq_some_iff.1 hoj).1;omega
      rw [hnx] at hti'
      generalize hTL:mC (TD O M i)=TL at gs h2i hti hlen hnx hti' ⊢
      rw [hj] at gs
      have hfl:=LD (sz:=2) h2i gs
      have hfs:=UD (b':=.int .i64 o.2.2.2) h2i gs
      have hfll:TL.flatten.length=MC.length*2:=by rw [cG h2i,hlen]
      have hpt:inE aC (aE s.1)=true:=aW _
      generalize aE s.1=is at gs hnx hti' hfl hfs hpt
      rw [List.cons_append,List.cons_append,List.nil_append] at hfl
      have hb1:i*2+2≤MC.length*2:=by omega
      obtain ⟨onm,of',op,oob⟩:=o
      obtain ⟨ofa,ofb,ofc,ofd,hfe⟩:=aI of'
      obtain ⟨opa,opb,opc,opd,hpe⟩:=aI op
      simp only [opC,opE,hfe,hpe,List.cons_append,List.nil_append] at go
      simp only at hfs hin hnx hti'
      cases hv:inO O oob with
      |false=>
       rw [hv] at hin
       have hres':res=([],6):=by
        rw [hres,if_neg]
        intro h
        have:=List.all_eq_true.1 h s (List.mem_of_getElem? hs)
        rw [hin] at this;cases this
       by_cases hb0:oob<0
       ·have c2:decide (oob<0)=true:=by simp [hb0]
        have c3:True:=trivial
        repeat' (first|(refine u'S ?_;simp only [wS,simprocAttr,gs,go,hjl,hA',hfl,hfll,hfs,hlen,hb1,c1,c2,c3,e3,Bool.not_true,Bool.not_false])|refine u'Q fun _ _=>?_|refine aO ?_|refine aP (fun hg=>?_) fun hg=>?_|fail)
        refine aX (v:=.agg [.sl true []]) rfl ?_ ?_
        ·simp only [wS,simprocAttr]
        ·simp only [wS,simprocAttr]
         rw [hres'];rfl
       ·have c2:decide (oob<0)=false:=by simp;omega
        have c3:decide (oob ≥ ((OL.length:Nat):Int))=true:=by
         simp only [inO,Bool.and_eq_false_iff,decide_eq_false_iff_not] at hv
         simp;omega
        repeat' (first|(refine u'S ?_;simp only [wS,simprocAttr,gs,go,hjl,hA',hfl,hfll,hfs,hlen,hb1,c1,c2,c3,e3,Bool.not_true,Bool.not_false])|refine u'Q fun _ _=>?_|refine aO ?_|refine aP (fun hg=>?_) fun hg=>?_|fail)
        refine aX (v:=.agg [.sl true []]) rfl ?_ ?_
        ·simp only [wS,simprocAttr]
        ·simp only [wS,simprocAttr]
         rw [hres'];rfl
      |true=>
       rw [hv] at hin
       have hv':0≤oob∧oob<(O.length:Int):=by simpa only [inO,Bool.and_eq_true,decide_eq_true_eq] using hv
       have c2:decide (oob<0)=false:=by simp;omega
       have c3:decide (oob ≥ ((OL.length:Nat):Int))=false:=by simp;omega
       have hall':∀ (j:Nat) (x:Si),j<i+1→M[j]? =some x→inO O (TH O x.2)=true:=fun j x hj hx=>by
        by_cases e:j=i
        ·subst e
         rw [hs] at hx
         cases hx
         exact hin
        ·exact hall j x (by omega) hx
       repeat' (first|(refine u'S ?_;simp only [wS,simprocAttr,gs,go,hjl,hA',hfl,hfll,hfs,hlen,hb1,c1,c2,c3,e3,Bool.not_true,Bool.not_false])|refine u'Q fun _ _=>?_|refine aO ?_|refine aP (fun hg=>?_) fun hg=>?_|fail)
       refine hK.go ⟨i+1,hlt,hall'⟩ (Weak.ref ⟨?_,.inr ⟨by first|exact Nat.zero_le _|exact Nat.le_refl _|simp,?_,fun g cs hg=>aD (hG0 g cs hg),?_,?_⟩⟩) (by simp only;omega)
       ·exact u'p
       ·simp only [wS,simprocAttr,hnx,hfs];try exact rfl
       ·intro z hz
        simp only [List.mem_cons,List.not_mem_nil,or_false] at hz
        rcases hz with rfl|rfl|rfl|rfl|rfl|rfl|rfl|rfl|rfl|rfl|rfl<;>first|rfl|(simp only [inR];exact aA hOt)
       ·simp only [List.all_cons,List.all_nil,Bool.and_true,Bool.and_eq_true];try exact ⟨cF (aA (by rw [hnx];exact hti')),aD htr,aD (by simp only [inL,inR,ht,Bool.and_self]),rfl,aD hwt,rfl⟩
     ·have c1:decide (((i:Nat):Int)<((MC.length:Nat):Int))=false:=by simp;omega
      obtain rfl:i=M.length:=by omega
      have hres':res=TJ c O (M.map (bkS O)) (fX W O W (M.map (bkS O))):=by
       rw [hres,if_pos]
       refine List.all_eq_true.2 fun x hx=>?_
       obtain ⟨j,hj⟩:=List.getElem?_of_mem hx
       exact hall j x (List.getElem?_eq_some_iff.1 hj).1 hj
      clear hres
      rename res=_=>hres
      rw [UC,hLQ]
      have h2L:∀ e∈LQ,e.length=2:=by rw [← hLQ];exact oI _
      have hLl:LQ.length=MC.length:=by rw [← hLQ,gQ,List.length_map,hn]
      refine eH (bN [0] (kp [1,2,3,4,5]) (l:=[(1,.sl false OL),(3,.ptr 1 0 0),(5,.ptr 2 0 0),(6,.ptr 3 0 0),(7,.int .i64 0),(8,.ptr 4 0 0),(9,.int .i64 0),(10,.ptr 5 0 0),(31,.int .i64 (MC.length:Nat)),(32,.int .i64 (M.length:Nat))]) (h:=[.none,.cells 0 [.int .i64 ca,.int .i64 cb,.int .i64 cc,.sl false cd],.cells 0 [.sl false MC],.cells 0 [.sl true []],.cells 0 [.int .i64 wa,.int .i64 wb,.int .i64 wc,.sl false wd],.cells 0 [.sl false LQ]]) hG0 (fun r hr=>absurd hr (Nat.not_lt_zero r)) ?_ ?_ ?_) ?_
      ·simp only [wS,simprocAttr,cS,Frz,and_true,true_or]
      ·simp only [List.all_cons,List.all_nil,inR,aA hOt,Bool.and_true,Bool.true_and];rfl
      ·simp only [wS,simprocAttr]
       simp only [ToH,and_true]
       exact ⟨.inl rfl,kr rfl (aD htr) (by simp),kr rfl (aD (by simp only [inL,inR,ht,Bool.and_self])) (by simp),kr rfl rfl (by simp),kr rfl (aD hwt) (by simp),.inr ⟨rfl,aD (by simp only [inL,inR,hLt,Bool.and_self]),.inr ⟨.inl (by simp),.inr ⟨0,_,_,rfl,rfl,.inr (.osl (cs:=LQ.flatten) (by simp) u'q hLl h2L (by rw [List.drop_zero,List.take_of_length_le (by rw [cG h2L,hLl];exact Nat.le_refl _)]) hLt),trivial⟩⟩⟩⟩
      ·cases hX:fX W O W (M.map (bkS O)) with
       |none=>
        rw [hX] at kmk' hres
        simp only [JV,OB] at kmk'
        simp only [TJ] at hres
        have e1:((6:Int) != 0)=true:=rfl
        repeat' (first|(refine u'S ?_;simp only [wS,simprocAttr,c1,e0,e1,Bool.not_true,Bool.not_false])|refine u'Q fun _ _=>?_|refine aO ?_|refine aP (fun hg=>?_) fun hg=>?_|refine u'G ?_|fail)
        refine aX (v:=.agg [.sl true []]) rfl ?_ ?_
        ·simp only [wS,simprocAttr]
        ·simp only [wS,simprocAttr]
         rw [hres];rfl
       |some X=>
        rw [hX] at kmk' hres
        simp only [JV] at kmk'
        have kcx:=hcm X W (hXs' X hX)
        simp only [TJ] at hres
        have hXT:=T.enc_tree X
        obtain ⟨xa,xb,xc,xd,hxe⟩:=aI X
        rw [hxe] at kmk' kcx hXT
        have e1:True:=trivial
        by_cases hz:T.cmp X c=0
        ·rw [hz] at kcx
         rw [if_pos hz] at hres
         repeat' (first|(refine u'S ?_;simp only [wS,simprocAttr,c1,e0,e1,Bool.not_true,Bool.not_false])|refine u'Q fun _ _=>?_|refine aO ?_|refine aP (fun hg=>?_) fun hg=>?_|refine u'G ?_|fail)
         refine aX (v:=.agg [.sl false LQ]) rfl ?_ ?_
         ·simp only [wS,simprocAttr]
         ·simp only [wS,simprocAttr]
          rw [hres]
          rw [← hLQ];exact TS (M.map (bkS O),0)
        ·rw [if_neg hz] at hres
         generalize T.cmp X c=cv at kcx hz
         have e2:(cv != 0)=true:=by simp [hz]
         repeat' (first|(refine u'S ?_;simp only [wS,simprocAttr,c1,e0,e1,Bool.not_true,Bool.not_false,e2])|refine u'Q fun _ _=>?_|refine aO ?_|refine aP (fun hg=>?_) fun hg=>?_|refine u'G ?_|fail)
         refine aX (v:=.agg [.sl true []]) rfl ?_ ?_
         ·simp only [wS,simprocAttr]
         ·simp only [wS,simprocAttr]
          rw [hres];rfl
set_option maxHeartbeats 32000000 in
theorem UV (c : T) (hc : T.size c ≤ 1000000000000) (O : List OpT) (hO : ∀ o ∈ O, OpB o) (M : List Si) (hM : M.length ≤ 1000) (hp : ∀ s ∈ M, s.1.length ≤ 1000000000000) (hW : dE M = true → ∀ W, fX c O c M = some W → T.size W ≤ 1000000000000) : Pure Tryz.prog G0 28 [.agg (T.enc c), .sl false (O.map opC), mV M] (TZ (TF c O M)) := by
 have hp2:∀ s∈M,s.1.length≤2000000000000:=fun s hs=>Nat.le_trans (hp s hs) (by decide)
 have kmk:=MY c hc O hO M (by omega) hp2
 have hst:∀ W,fX c O c M=some W→∀ s∈M,∃ (j:Nat) (o:OpT),s.2=j∧O[j]? =some o:=fun W h s hs=>by
  obtain ⟨u,hu⟩:=TG h s hs
  obtain ⟨n,o,_,ho,_,_⟩:=qC hu
  obtain ⟨j,hj,hoj⟩:=EQ ho
  exact ⟨j,o,hj,hoj⟩
 have htr:=T.enc_tree c
 have hOt:=eI O
 have hOl:(O.map opC).length=O.length:=List.length_map _
 have hOg:∀ (j:Nat) (o:OpT),O[j]? =some o→(O.map opC)[j]? =some (opC o):=fun j o h=>by rw [List.getElem?_map,h];rfl
 have ht:=cK M
 have hn:=gQ M
 have h2:=oI M
 obtain ⟨res,hres⟩:∃ r,r=TF c O M:=⟨_,rfl⟩
 have hrt:=TY res
 have hrw:=TS res
 rw [← hres]
 have kmk2:dE M=true→∀ W,fX c O c M=some W→Pure Tryz.prog G0 14 [.agg (T.enc W),.sl false (O.map opC),.agg [.sl false (mC (M.map (bkS O)))]] (jS W O (M.map (bkS O))):=fun ha W h=>by
  have:=MY W (hW ha W h) O hO (M.map (bkS O)) (by rw [List.length_map];omega) (fun s hs=>by obtain ⟨x,hx,rfl⟩:=List.mem_map.1 hs;exact hp2 x hx)
  simpa only [mV] using this
 have hcm:∀ X W:T,T.size X≤100000000000000000→Pure Tryz.prog G0 15 [.agg (T.enc X),.agg (T.enc c)] (.bool (T.cmp X c==0)):=fun X W h=>FG X c h
 have hXs:∀ W X,fX c O c M=some W→fX W O W (M.map (bkS O))=some X→dE M=true→T.size X≤100000000000000000:=fun W X h h' ha=>by
  obtain ⟨f,nd,H,rfl⟩:=TK (by rw [TI];exact ha) h' (fun s hs=>by obtain ⟨x,hx,rfl⟩:=List.mem_map.1 hs;exact hp2 x hx)
  have h1:=qG (f:=f) H.ap H.sb
  have h2:=JC (k:=32) H.sz
  have h3:=MH H.ap H.sb
  have h4:=H.len
  have h5:=hW ha W h
  omega
 simp only [mV] at kmk ⊢
 have hgt:=fun (i:Nat) (s:Si)=>jG (M:=M) (i:=i) (s:=s)
 generalize hMC:mC M=MC at ht hn h2 hgt kmk ⊢
 generalize hOL:O.map opC=OL at hOt hOl hOg kmk kmk2 ⊢
 obtain ⟨ca,cb,cc,cd,hce⟩:=aI c
 rw [hce] at kmk htr ⊢
 simp only [hce] at hcm
 refine aU hG0 Tryz.func28 rfl (by kernel_rfl) (by simp [Tryz.ntmps28]) (by simp only [inL,inR,hOt,ht,Bool.true_and,Bool.and_true] at htr ⊢;exact htr) (by exact hrt) ?_
 simp only [Tryz.ntmps28,aH,Nat.reduceAdd]
 rw [jS] at kmk
 rw [TF] at hres
 cases hA:dE M with
 |false=>
  rw [hA] at kmk hres
  simp only [Bool.false_eq_true,if_false] at kmk hres
  simp only [OB] at kmk
  have e0:((1:Int) != 0)=true:=rfl
  repeat' (first|(refine u'S ?_;simp only [wS,simprocAttr,e0,Bool.not_true,Bool.not_false])|refine u'Q fun _ _=>?_|refine aO ?_|refine aP (fun hg=>?_) fun hg=>?_|refine u'G ?_|fail)
  refine aX (v:=.agg [.sl true []]) rfl ?_ ?_
  ·simp only [wS,simprocAttr]
  ·simp only [wS,simprocAttr]
   rw [hres];rfl
 | true =>
  rw [hA] at kmk hres
  simp only [if_true] at kmk hres
  cases hF:fX c O c M with
  |none=>
   rw [hF] at kmk hres
   simp only [JV,OB] at kmk
   simp only at hres
   have e0:((6:Int) != 0)=true:=rfl
   repeat' (first|(refine u'S ?_;simp only [wS,simprocAttr,e0,Bool.not_true,Bool.not_false])|refine u'Q fun _ _=>?_|refine aO ?_|refine aP (fun hg=>?_) fun hg=>?_|refine u'G ?_|fail)
   refine aX (v:=.agg [.sl true []]) rfl ?_ ?_
   ·simp only [wS,simprocAttr]
   ·simp only [wS,simprocAttr]
    rw [hres];rfl
  | some W =>
   rw [hF] at kmk hres
   simp only at hres
   simp only [JV] at kmk
   have kmk':=kmk2 hA W hF
   rw [jS,TI,hA] at kmk'
   simp only [if_true] at kmk'
   have hXs':=fun X h=>hXs W X hF h hA
   have hst':=hst W hF
   clear kmk2 hXs hst hW
   have hwt:=T.enc_tree W
   obtain ⟨wa,wb,wc,wd,hwe⟩:=aI W
   rw [hwe] at kmk hwt kmk'
   have e0:((0:Int) != 0)=false:=rfl
   have hLt:=cK (M.map (bkS O))
   repeat' (first|(refine u'S ?_;simp only [wS,simprocAttr,e0,Bool.not_true,Bool.not_false])|refine u'Q fun _ _=>?_|refine aO ?_|refine aP (fun hg=>?_) fun hg=>?_|refine u'G ?_|fail)
   refine aJ (α:={i:Nat // i≤M.length∧∀ (j:Nat) (x:Si),j<i→M[j]? =some x→inO O (TH O x.2)=true}) (fun i=>[(1,.sl false OL),(3,.ptr 0 0 0),(5,.ptr 1 0 0),(6,.ptr 2 0 0),(7,.int .i64 0),(8,.ptr 3 0 0),(9,.int .i64 0),(10,.ptr 4 0 0),(11,.int .i64 (i.1:Nat))]) (fun i=>[.cells 0 [.int .i64 ca,.int .i64 cb,.int .i64 cc,.sl false cd],.cells 0 [.sl false MC],.cells 0 [.sl true []],.cells 0 [.int .i64 wa,.int .i64 wb,.int .i64 wc,.sl false wd],.cells 0 [rv 5 ((mC ((M.take i.1).map (bkS O))).length - 1) 2 (mC ((M.take i.1).map (bkS O)))],rvR ((mC ((M.take i.1).map (bkS O))).length - 1) (mC ((M.take i.1).map (bkS O)))]) (fun i=>M.length - i.1) ⟨0,Nat.zero_le _,fun j x h=>by omega⟩ (bN [] (kp [0,1,2,3,4,5]) hG0 (fun r hr=>absurd hr (Nat.not_lt_zero r)) ?_ ?_ ?_) ?_
   ·simp only [wS,simprocAttr,cS,Frz,and_true,true_or]
   ·simp only [List.all_cons,List.all_nil,inR,aA hOt,Bool.and_true,Bool.true_and];rfl
   ·simp only [wS,simprocAttr,List.take_zero,List.map_nil,mC,dS,dM]
    simp only [ToH,and_true]
    exact ⟨kr rfl (aD htr) (by simp),kr rfl (aD (by simp only [inL,inR,ht,Bool.and_self])) (by simp),kr rfl rfl (by simp),kr rfl (aD hwt) (by simp),.inr ⟨rfl,rfl,.inr ⟨.inl (by simp),.inr ⟨0,_,_,rfl,rfl,.inr .toRsv,trivial⟩⟩⟩⟩
   ·rintro ⟨i,hi,hall⟩ K hK
    try simp only at hi hall
    by_cases hlt:i<M.length
    ·have c1:decide (((i:Nat):Int)<((MC.length:Nat):Int))=true:=by simp;omega
     have hA':i<MC.length:=by omega
     have e3:=aL (k:=i) hlt (by omega)
     obtain ⟨s,hs⟩:∃ s,M[i]? =some s:=⟨_,List.getElem?_eq_getElem hlt⟩
     obtain ⟨j,o,hj,hoj⟩:=hst' s (List.mem_of_getElem? hs)
     have gs:=hgt i s hs
     have hin:inO O (TH O s.2)=inO O o.2.2.2:=by rw [TQ (o:=o) (by rw [hj,atO,if_pos (by omega)];simpa using hoj)]
     have hbs:bkS O s=(s.1,o.2.2.2):=by rw [bkS,TQ (o:=o) (by rw [hj,atO,if_pos (by omega)];simpa using hoj)]
     have htk:M.take (i+1)=M.take i++[s]:=by rw [List.take_add_one,hs];rfl
     have hnx:mC ((M.take (i+1)).map (bkS O))=mC ((M.take i).map (bkS O))++[[.sl false (aE s.1),.int .i64 o.2.2.2]]:=by rw [htk,List.map_append,List.map_cons,List.map_nil,kN,hbs];rfl
     have hal:(mC ((M.take i).map (bkS O))).length=i:=by rw [gQ,List.length_map,List.length_take];omega
     have h2i:=oI ((M.take i).map (bkS O))
     have hvv:=BZ (l:=mC ((M.take i).map (bkS O)))
     have go:=hOg j o hoj
     have hjl:j<OL.length:=by have:=(List.getElem?_eq_some_iff.1 hoj).1;omega
     generalize hTL:mC ((M.take i).map (bkS O))=TL at hnx hal h2i hvv ⊢
     rw [hj] at gs
     have hml:(TL++[[AV.sl false (aE s.1),AV.int .i64 o.2.2.2]]).length - 1=TL.length:=by simp
     generalize aE s.1=is at gs hnx hml
     obtain ⟨onm,of',op,oob⟩:=o
     obtain ⟨ofa,ofb,ofc,ofd,hfe⟩:=aI of'
     obtain ⟨opa,opb,opc,opd,hpe⟩:=aI op
     simp only [opC,opE,hfe,hpe,List.cons_append,List.nil_append] at go
     simp only at hin hnx hml
     cases hv:inO O oob with
     |false=>
      rw [hv] at hin
      have hres':res=([],6):=by
       rw [hres,if_neg]
       intro h
       have:=List.all_eq_true.1 h s (List.mem_of_getElem? hs)
       rw [hin] at this;cases this
      by_cases hb0:oob<0
      ·have c2:decide (oob<0)=true:=by simp [hb0]
       have c3:True:=trivial
       repeat' (first|(refine u'S ?_;simp only [wS,simprocAttr,gs,go,hjl,hA',c1,c2,c3,e3,Bool.not_true,Bool.not_false,↓aM,↓aF])|refine u'Q fun _ _=>?_|refine aO ?_|refine aP (fun hg=>?_) fun hg=>?_|fail)
       refine aX (v:=.agg [.sl true []]) rfl ?_ ?_
       ·simp only [wS,simprocAttr]
       ·simp only [wS,simprocAttr]
        rw [hres'];rfl
      ·have c2:decide (oob<0)=false:=by simp;omega
       have c3:decide (oob ≥ ((OL.length:Nat):Int))=true:=by
        simp only [inO,Bool.and_eq_false_iff,decide_eq_false_iff_not] at hv
        simp;omega
       repeat' (first|(refine u'S ?_;simp only [wS,simprocAttr,gs,go,hjl,hA',c1,c2,c3,e3,Bool.not_true,Bool.not_false,↓aM,↓aF])|refine u'Q fun _ _=>?_|refine aO ?_|refine aP (fun hg=>?_) fun hg=>?_|fail)
       refine aX (v:=.agg [.sl true []]) rfl ?_ ?_
       ·simp only [wS,simprocAttr]
       ·simp only [wS,simprocAttr]
        rw [hres'];rfl
     |true=>
      rw [hv] at hin
      have hv':0≤oob∧oob<(O.length:Int):=by simpa only [inO,Bool.and_eq_true,decide_eq_true_eq] using hv
      have c2:decide (oob<0)=false:=by simp;omega
      have c3:decide (oob ≥ ((OL.length:Nat):Int))=false:=by simp;omega
      have hall':∀ (j:Nat) (x:Si),j<i+1→M[j]? =some x→inO O (TH O x.2)=true:=fun j x hj hx=>by
       by_cases e:j=i
       ·subst e
        rw [hs] at hx
        cases hx
        exact hin
       ·exact hall j x (by omega) hx
      repeat' (first|(refine u'S ?_;simp only [wS,simprocAttr,gs,go,hjl,hA',c1,c2,c3,e3,Bool.not_true,Bool.not_false,↓aM,↓aF])|refine u'Q fun _ _=>?_|refine aO ?_|refine aP (fun hg=>?_) fun hg=>?_|refine b8 (v':=TL.length) (es:=[[.sl false is,.int .i64 oob]]) (by':=32) (by kernel_rfl) u'p hvv h2i (by simp [cJ]) (by simp) (by simp only [List.length_cons,List.length_nil];omega) (u'T ?_))
      refine hK.go ⟨i+1,hlt,hall'⟩ (Weak.ref ⟨?_,.inr ⟨by first|exact Nat.zero_le _|exact Nat.le_refl _|simp,?_,fun g cs hg=>aD (hG0 g cs hg),?_,?_⟩⟩) (by simp only;omega)
      ·simp only [wS,simprocAttr,↓aM,↓aF];try exact rfl
      ·simp only [wS,simprocAttr,hnx,hml];try exact rfl
      ·intro z hz
       simp only [List.mem_cons,List.not_mem_nil,or_false] at hz
       rcases hz with rfl|rfl|rfl|rfl|rfl|rfl|rfl|rfl|rfl<;>first|rfl|(simp only [inR];exact aA hOt)
      ·simp only [List.all_cons,List.all_nil,Bool.and_true,Bool.and_eq_true];try exact ⟨aD htr,aD (by simp only [inL,inR,ht,Bool.and_self]),rfl,aD hwt,(by simp only [aG,inL,Bool.and_true];exact cH rfl),bQ (aA (cK _))⟩
    ·have c1:decide (((i:Nat):Int)<((MC.length:Nat):Int))=false:=by simp;omega
     obtain rfl:i=M.length:=by omega
     have hres':res=TJ c O (M.map (bkS O)) (fX W O W (M.map (bkS O))):=by
      rw [hres,if_pos]
      refine List.all_eq_true.2 fun x hx=>?_
      obtain ⟨j,hj⟩:=List.getElem?_of_mem hx
      exact hall j x (List.getElem?_eq_some_iff.1 hj).1 hj
     clear hres
     rename res=_=>hres
     rw [List.take_length]
     have h2L:=oI (M.map (bkS O))
     generalize hLQ:mC (M.map (bkS O))=LQ at kmk' hLt h2L ⊢
     refine eH (bN [5] (kp [0,1,2,3,4]) (l:=[(1,.sl false OL),(3,.ptr 0 0 0),(5,.ptr 1 0 0),(6,.ptr 2 0 0),(7,.int .i64 0),(8,.ptr 3 0 0),(9,.int .i64 0),(10,.ptr 4 0 0),(11,.int .i64 (M.length:Nat))]) (h:=[.cells 0 [.int .i64 ca,.int .i64 cb,.int .i64 cc,.sl false cd],.cells 0 [.sl false MC],.cells 0 [.sl true []],.cells 0 [.int .i64 wa,.int .i64 wb,.int .i64 wc,.sl false wd],.cells 0 [.sl false LQ]]) hG0 (fun r hr=>absurd hr (Nat.not_lt_zero r)) ?_ ?_ ?_) ?_
     ·simp only [wS,simprocAttr,cS,Frz,and_true,true_or]
     ·simp only [List.all_cons,List.all_nil,inR,aA hOt,Bool.and_true,Bool.true_and];rfl
     ·simp only [wS,simprocAttr,↓aM,↓aF]
      simp only [ToH,and_true]
      exact ⟨kr rfl (aD htr) (by simp),kr rfl (aD (by simp only [inL,inR,ht,Bool.and_self])) (by simp),kr rfl rfl (by simp),kr rfl (aD hwt) (by simp),.inr ⟨rfl,aD (by simp only [inL,inR,hLt,Bool.and_self]),.inr ⟨.inl (by simp),.inr ⟨0,_,_,rfl,rfl,.inr (fB (v:=LQ.length - 1) u'p (by simp) h2L hLt),trivial⟩⟩⟩,rfl⟩
     ·cases hX:fX W O W (M.map (bkS O)) with
      |none=>
       rw [hX] at kmk' hres
       simp only [JV,OB] at kmk'
       simp only [TJ] at hres
       have e1:((6:Int) != 0)=true:=rfl
       repeat' (first|(refine u'S ?_;simp only [wS,simprocAttr,c1,e0,e1,Bool.not_true,Bool.not_false])|refine u'Q fun _ _=>?_|refine aO ?_|refine aP (fun hg=>?_) fun hg=>?_|refine u'G ?_|fail)
       refine aX (v:=.agg [.sl true []]) rfl ?_ ?_
       ·simp only [wS,simprocAttr]
       ·simp only [wS,simprocAttr]
        rw [hres];rfl
      |some X=>
       rw [hX] at kmk' hres
       simp only [JV] at kmk'
       have kcx:=hcm X W (hXs' X hX)
       simp only [TJ] at hres
       have hXT:=T.enc_tree X
       obtain ⟨xa,xb,xc,xd,hxe⟩:=aI X
       rw [hxe] at kmk' kcx hXT
       have e1:True:=trivial
       by_cases hz:T.cmp X c=0
       ·rw [show (T.cmp X c==0)=true by simp [hz]] at kcx
        rw [if_pos hz] at hres
        repeat' (first|(refine u'S ?_;simp only [wS,simprocAttr,c1,e0,e1,Bool.not_true,Bool.not_false])|refine u'Q fun _ _=>?_|refine aO ?_|refine aP (fun hg=>?_) fun hg=>?_|refine u'G ?_|fail)
        refine aX (v:=.agg [.sl false LQ]) rfl ?_ ?_
        ·simp only [wS,simprocAttr]
        ·simp only [wS,simprocAttr]
         rw [hres]
         rw [← hLQ];exact TS (M.map (bkS O),0)
       ·rw [if_neg hz] at hres
        rw [show (T.cmp X c==0)=false by simp [hz]] at kcx
        repeat' (first|(refine u'S ?_;simp only [wS,simprocAttr,c1,e0,e1,Bool.not_true,Bool.not_false])|refine u'Q fun _ _=>?_|refine aO ?_|refine aP (fun hg=>?_) fun hg=>?_|refine u'G ?_|fail)
        refine aX (v:=.agg [.sl true []]) rfl ?_ ?_
        ·simp only [wS,simprocAttr]
        ·simp only [wS,simprocAttr]
         rw [hres];rfl
end Go.Proofs.YtggflhbigolakaaGreatDoor
