import Derived.Test.YtggflhbigolakaaGreatDoorUM
import Derived.Test.YtggflhbigolakaaGreatDoorUN
set_option linter.unusedVariables false
set_option linter.unusedSimpArgs false
namespace Go.Proofs.YtggflhbigolakaaGreatDoor
open Go.AM
attribute [local irreducible] AWp aY bC bI bU bW aN aS bL
set_option maxRecDepth 100000
def mE (M:List Si):List (List AV):=M.map fun s=>[.sl s.1.isEmpty (aE s.1),.int .i64 s.2]
theorem oH (M:List Si):(mE M).length=M.length:=List.length_map ..
theorem Q5 {M:List Si} {i:Nat} {s:Si} (h:M[i]? =some s):(mE M)[i]? =some [.sl s.1.isEmpty (aE s.1),.int .i64 s.2]:=by rw [mE,List.getElem?_map,h];rfl
theorem AK (M:List Si):∀ e∈mE M,e.length=2:=fun e he=>by
 obtain ⟨x,_,rfl⟩:=List.mem_map.1 he
 rfl
theorem i7:∀ M:List Si,inE aC (mE M)=true
 | []=>rfl
 |s::M=>by
  have:=i7 M
  have h:inE aC (aE s.1)=true:=aW _
  simp only [mE,List.map_cons,inE,inL,inR,h,Bool.and_self,Bool.true_and]
  exact this
theorem pM (p:List Int) (b:Bool):AM.wk (.sl b (aE p))=.sl false (aE p):=by
 have h2:=D3 [p]
 simp only [PE,List.map_cons,List.map_nil,wkL,List.cons.injEq,and_true] at h2
 rw [AM.wk] at h2 ⊢
 exact h2
theorem KT:∀ M:List Si,(mE M).map wkL=mC M
 | []=>rfl
 |s::M=>by
  show [AM.wk (.sl s.1.isEmpty (aE s.1)),AV.int .i64 s.2]::(mE M).map wkL=[.sl false (aE s.1),.int .i64 s.2]::mC M
  rw [pM,KT M]
theorem qO {L:List (List AV)} (h:∀ e∈L,e.length=2) {i:Nat} {a b x:AV} (hi:L[i]? =some [a,b]):List.take (i*2) L.flatten++[x]++List.drop (i*2+1) L.flatten=(L.set i [x,b]).flatten:=by
 induction L generalizing i with
 |nil=>simp at hi
 |cons e L ih=>
  cases i with
  |zero=>
   obtain rfl:e=[a,b]:=by simpa using hi
   simp
  |succ i=>
   have he:e.length=2:=h e (by simp)
   have:=ih (fun e he=>h e (by simp [he])) (i:=i) (by simpa using hi)
   simp only [List.set_cons_succ,List.flatten_cons]
   rw [← this,show (i+1)*2=e.length+i*2 by omega,show e.length+i*2+1=e.length+(i*2+1) by omega,List.take_length_add_append,List.drop_length_add_append]
   simp only [List.append_assoc]
theorem IG {L:List (List AV)} (h:∀ e∈L,e.length=2) {i:Nat} {a b x:AV} (hi:L[i]? =some [a,b]):List.take (i*2+1) L.flatten++[x]++List.drop (i*2+1+1) L.flatten=(L.set i [a,x]).flatten:=by
 induction L generalizing i with
 |nil=>simp at hi
 |cons e L ih=>
  cases i with
  |zero=>
   obtain rfl:e=[a,b]:=by simpa using hi
   simp
  |succ i=>
   have he:e.length=2:=h e (by simp)
   have:=ih (fun e he=>h e (by simp [he])) (i:=i) (by simpa using hi)
   simp only [List.set_cons_succ,List.flatten_cons]
   rw [← this,show (i+1)*2+1=e.length+(i*2+1) by omega,show e.length+(i*2+1)+1=e.length+(i*2+1+1) by omega,List.take_length_add_append,List.drop_length_add_append]
   simp only [List.append_assoc]
theorem E5 {L:List (List AV)} (h:∀ e∈L,e.length=2) {i:Nat} {a b:AV} (hi:L[i]? =some [a,b]):List.take 2 (List.drop (i*2) L.flatten)=[a,b]:=by
 induction L generalizing i with
 |nil=>simp at hi
 |cons e L ih=>
  cases i with
  |zero=>
   obtain rfl:e=[a,b]:=by simpa using hi
   simp
  |succ i=>
   have he:e.length=2:=h e (by simp)
   have:=ih (fun e he=>h e (by simp [he])) (i:=i) (by simpa using hi)
   rw [List.flatten_cons,show (i+1)*2=e.length+i*2 by omega,List.drop_length_add_append]
   exact this
theorem HE {L:List (List AV)} (h:∀ e∈L,e.length=2) {i:Nat} {a b:AV} (hi:L[i]? =some [a,b]):(List.drop (i*2) L.flatten).head? =some a:=by
 have h2:=E5 h hi
 cases hd:List.drop (i*2) L.flatten with
 |nil=>rw [hd] at h2;simp at h2
 |cons x l=>
  rw [hd] at h2
  simp only [List.take_succ_cons,List.cons.injEq] at h2
  rw [List.head?_cons,h2.1]
theorem Q4 {M:List Si} (i:Nat) (s:Si):mE (M.set i s)=(mE M).set i [.sl s.1.isEmpty (aE s.1),.int .i64 s.2]:=List.map_set
def ME (L:List (List AV)) (M:List Si):Prop:=L.map wkL=mC M∧inE aC L=true∧∀ e∈L,e.length=2
theorem yC (p:List Int) (k:Nat):(aE p).take k=aE (p.take k):=by simp [aE,List.map_take]
theorem AU (p:List Int) (k:Nat):AM.wk (.sl false ((aE p).take k))=.sl false (aE (p.take k)):=by rw [yC,pM]
theorem uN (p:List Int) (k:Nat):inR aC (.sl false ((aE p).take k))=true:=by rw [yC,inR];exact aW _
theorem BU {M:List Si} (kk:Nat) {a:AV} {p:List Int} (o:Int) (ha:AM.wk a=.sl false (aE p)) (ht:inR aC a=true):ME ((mE M).set kk [a,.int .i64 o]) (M.set kk (p,o)):=by
 refine ⟨?_,iL fun e he=>?_,fun e he=>?_⟩
 ·rw [List.map_set,KT,mC,mC,List.map_set,wkL,ha];rfl
 ·rcases List.mem_or_eq_of_mem_set he with he|rfl
  ·exact jN (i7 M) e he
  ·simp only [inL,ht,inR,Bool.and_self]
 ·rcases List.mem_or_eq_of_mem_set he with he|rfl
  ·exact AK M e he
  ·rfl
theorem kI (r v sz:Nat) (A:List (List AV)) (e:List AV):rv r v sz (A++[e])=.osl r v 0 (A.length+1) sz false:=by
 rw [rv,if_neg (by simp),List.length_append];rfl
theorem iK (v:Nat) (A:List (List AV)) (e:List AV):rvR v (A++[e])=.cells v (A.flatten++e):=by
 rw [rvR,if_neg (by simp),List.flatten_append];simp
theorem PZ (r v sz:Nat) (e:List AV):rv r v sz [e]=.osl r v 0 1 sz false:=kI r v sz [] e
theorem N9 (v:Nat) (e:List AV):rvR v [e]=.cells v e:=by
 have:=iK v [] e
 simpa using this
theorem NT {P:Program} {G:Nat→Option (List AV)} {n:Nat} {K:Option Acc→AS→Prop} {d:Option Tmp} {rest:List POp} {m:Option Acc} {fp:List Nat} {s:AS} {t u:TypeId} {sz by':Nat} {x:AV} {rows:Nat→ARow} {nb:Nat} {r:Nat} {e:List AV} (ht:rY P t u=some (sz,by')) (hr:rows r=.none) (hs:cJ sz x rows=some (1,e)) (hb:by'+1≤140737488355328)
  (hk:aY P G n K rest (adv m fp [r]) ((s.wr [(r,.cells 0 e)]).put d (.osl r 0 0 1 sz false))):bU P G n K d rest m fp s (dN P t u (.rsv r) x rows nb):=by
 have h:=b8 (P:=P) (G:=G) (n:=n) (K:=K) (d:=d) (rest:=rest) (m:=m) (fp:=fp) (s:=s) (t:=t) (u:=u) (sz:=sz) (by':=by') (x:=x) (rows:=rows) (nb:=nb) (r:=r) (v:=0) (v':=0) (app:=[]) (es:=[e]) ht (by rw [dM];exact hr) (by simp) (by simp) (by simpa using hs) (by simp) (by simpa using hb) (by rw [List.nil_append,PZ,N9];exact hk)
 rwa [dS] at h
theorem iD (z:Int):cI (IntKind.i64.wrap z):=by
 unfold cI
 simp [IntKind.wrap,IntKind.bits,IntKind.signed]
 omega
theorem u2 {rows:Nat→ARow} {fp:List Nat} {a b:List AV} (h:j8 rows fp a b):∀ (L:List (List AV)) (k:Nat),j8 rows fp (L.set k a).flatten (L.set k b).flatten
 | [],_=>trivial
 |e::L,0=>by simp only [List.set_cons_zero,List.flatten_cons];exact fQ h (hU _)
 |e::L,k+1=>by simp only [List.set_cons_succ,List.flatten_cons];exact fQ (hU _) (u2 h L k)
def spF (M:List Si) (k h x1 x2 x3 x4:Nat):List Si:=match M[k]? with
 |none=>M++[([(x1:Int),(x2:Int)],(x3:Int))]
 |some s=>if h=0 then M++[([(x1:Int),(x2:Int)],(x3:Int))] else if h=1 then M.set k (s.1,(x4:Int) - 1) else if h=2 then M.set k (s.1++[(x2:Int)],s.2) else if h=3 then M.set k (s.1.take (s.1.length - 1),s.2) else M++[s]
theorem P8 (M:List Si) (k h x1 x2 x3 x4 B:Nat) (hp:∀ s∈M,s.1.length≤B):(spF M k h x1 x2 x3 x4).length≤M.length+1∧∀ s∈spF M k h x1 x2 x3 x4,s.1.length≤B+3:=by
 have ha:∀ x:Si,x.1.length≤B+3→(M++[x]).length≤M.length+1∧∀ s∈M++[x],s.1.length≤B+3:=fun x hx=>⟨by simp,fun s hs=>by
  rcases List.mem_append.1 hs with hs|hs
  ·have:=hp s hs;omega
  ·rw [List.mem_singleton.1 hs];exact hx⟩
 have hs:∀ x:Si,x.1.length≤B+3→(M.set k x).length≤M.length+1∧∀ s∈M.set k x,s.1.length≤B+3:=fun x hx=>⟨by simp,fun s hs=>by
  rcases List.mem_or_eq_of_mem_set hs with hs|rfl
  ·have:=hp s hs;omega
  ·exact hx⟩
 unfold spF
 split
 ·exact ha _ (by simp)
 ·rename_i s hk
  have hs1:=hp s (List.mem_of_getElem? hk)
  split
  ·exact ha _ (by simp)
  ·split
   ·exact hs _ (by show s.1.length≤_;omega)
   ·split
    ·exact hs _ (by show (s.1++[_]).length≤_;simp;omega)
    ·split
     ·exact hs _ (by show (s.1.take _).length≤_;rw [List.length_take];omega)
     ·exact ha _ (by omega)
set_option maxHeartbeats 16000000 in
theorem MO (M : List Si) (hM : M.length ≤ 1000) (hp : ∀ s ∈ M, s.1.length ≤ 100000000000) (how by0 : Int) (kk hw x1 x2 x3 x4 : Nat) (hkk : kk ≤ M.length) (hw5 : hw < 5) (hx4 : x4 < 10)
  (ka:Pure Tryz.prog G0 19 [.int .i64 by0,.int .i64 ((M.length+1:Nat):Int)] (.int .i64 (kk:Nat))) (kh:Pure Tryz.prog G0 19 [.int .i64 how,.int .i64 5] (.int .i64 (hw:Nat)))
  (kx1:Pure Tryz.prog G0 19 [.int .i64 by0,.int .i64 3] (.int .i64 (x1:Nat))) (kx2:Pure Tryz.prog G0 19 [.int .i64 (IntKind.i64.wrap (by0.tdiv 3)),.int .i64 3] (.int .i64 (x2:Nat)))
  (kx3:Pure Tryz.prog G0 19 [.int .i64 (IntKind.i64.wrap (by0.tdiv 9)),.int .i64 8] (.int .i64 (x3:Nat))) (kx4:Pure Tryz.prog G0 19 [.int .i64 (IntKind.i64.wrap (by0.tdiv 3)),.int .i64 10] (.int .i64 (x4:Nat)))
  (hno:∀ s,M[kk]? =some s→hw=2→s.1=[]):Pure Tryz.prog G0 12 [mV M,.int .i64 how,.int .i64 by0] (mV (spF M kk hw x1 x2 x3 x4)):=by
 have ht:=cK M
 have hn:=gQ M
 have hg:=fun (i:Nat) (s:Si)=>jG (M:=M) (i:=i) (s:=s)
 obtain ⟨R,hR⟩:∃ R,R=spF M kk hw x1 x2 x3 x4:=⟨_,rfl⟩
 have htV:=sF R
 rw [← hR]
 simp only [mV] at htV ⊢
 generalize mC M=MC at ht hn hg ⊢
 refine aU hG0 Tryz.func12 rfl (by kernel_rfl) (by simp [Tryz.ntmps12]) (by simp only [inL,inR,ht,Bool.and_self]) (by exact htV) ?_
 simp only [Tryz.ntmps12,aH,Nat.reduceAdd]
 refine jD ?_
 repeat' (first|(refine u'S ?_;simp only [wS,simprocAttr])|refine u'Q fun _ _=>?_|refine aV ?_|refine aR (fun hg=>?_) fun hg=>?_|fail)
 refine aJ (α:={i:Nat // i≤M.length}) (fun i=>[(1,.int .i64 how),(2,.int .i64 by0),(3,.ptr 0 0 0),(6,.ptr 1 0 0),(7,.ptr 2 0 0),(8,.int .i64 (i.1:Nat))]) (fun i=>[.cells 0 [.sl false MC],.cells 0 [.sl true []],.cells 0 [rv 3 (i.1 - 1) 2 (mE (M.take i.1))],rvR (i.1 - 1) (mE (M.take i.1))]) (fun i=>M.length - i.1) ⟨0,Nat.zero_le _⟩ (bN [] (kp [0,1,2,3]) hG0 (fun r hr=>absurd hr (Nat.not_lt_zero r)) ?_ ?_ ?_) ?_
 ·simp only [wS,simprocAttr,cS,Frz,and_true,true_or]
 ·rfl
 ·simp only [wS,simprocAttr,List.take_zero,mE,List.map_nil,dS,dM]
  simp only [ToH,and_true]
  exact ⟨kr rfl (aD (by simp only [inL,inR,ht,Bool.and_self])) (by simp),kr rfl rfl (by simp),.inr ⟨rfl,rfl,.inr ⟨.inl (by simp),.inr ⟨0,_,_,rfl,rfl,.inr .toRsv,trivial⟩⟩⟩⟩
 ·rintro ⟨i,hi⟩ K hK
  try simp only at hi
  by_cases hlt:i<M.length
  ·have c1:decide (((i:Nat):Int)<((MC.length:Nat):Int))=true:=by simp;omega
   have e3:=aL (k:=i) hlt (by omega)
   obtain ⟨s,hs⟩:∃ s,M[i]? =some s:=⟨_,List.getElem?_eq_getElem hlt⟩
   have gs:=hg i s hs
   have hA:i<MC.length:=by omega
   have hpz:=hp s (List.mem_of_getElem? hs)
   obtain ⟨p,op⟩:=s
   have htk:mE (M.take (i+1))=mE (M.take i)++[[.sl p.isEmpty (aE p),.int .i64 op]]:=by rw [mE,mE,eY hs]
   have hel:(mE (M.take i)).length=i:=by rw [oH,List.length_take];omega
   have he2:=AK (M.take i)
   have het:=i7 (M.take i)
   have hti:inE aC (aE p)=true:=aW p
   have hvv:i=if mE (M.take i)=[] then 0 else i - 1+1:=by
    have:=BZ (l:=mE (M.take i))
    rw [hel] at this;exact this
   simp only at gs hpz
   by_cases hpe:p=[]
   ·subst hpe
    have hp0:aE ([]:List Int)=[]:=rfl
    simp only [hp0,List.isEmpty_nil] at gs htk
    generalize hAP:mE (M.take i)=AP at htk hel he2 het hvv
    simp only [hAP]
    repeat' (first|(refine u'S ?_;simp only [wS,simprocAttr,gs,hA,c1,e3,↓aM,↓aF])|refine u'Q fun _ _=>?_|refine aO ?_|refine aP (fun hg=>?_) fun hg=>?_|refine mO (sz:=1) (by':=8) (new:=[]) (by kernel_rfl) (by simp) (by simp [cJ]) (by simp) (u'T ?_)|refine b8 (v':=i) (es:=[[.sl true [],.int .i64 op]]) (by':=32) (by kernel_rfl) u'p hvv he2 (by simp [cJ]) (by simp) (by rw [hel];simp only [List.length_cons,List.length_nil];omega) (u'T ?_))
    refine hK.go ⟨i+1,hlt⟩ (Weak.ref ⟨?_,.inr ⟨by first|exact Nat.zero_le _|exact Nat.le_refl _|simp,?_,fun g cs hg=>aD (hG0 g cs hg),?_,?_⟩⟩) (by simp only;omega)
    ·simp only [wS,simprocAttr,↓aM,↓aF];try exact rfl
    ·simp only [wS,simprocAttr,Nat.add_sub_cancel,htk];try exact rfl
    ·intro z hz
     simp only [List.mem_cons,List.not_mem_nil,or_false] at hz
     rcases hz with rfl|rfl|rfl|rfl|rfl|rfl<;>first|rfl|rfl
    ·simp only [List.all_cons,List.all_nil,Bool.and_true,Bool.and_eq_true];try exact ⟨aD (by simp only [inL,inR,ht,Bool.and_self]),rfl,by simp only [aG,inL,Bool.and_true];exact cH rfl,bQ (aA (i7 _))⟩
   ·have hpE:p.isEmpty=false:=by cases p with
     |nil=>exact absurd rfl hpe
     |cons=>rfl
    have hpl:(aE p).length=p.length:=by simp [aE]
    have hppos:0<p.length:=List.length_pos_iff.2 hpe
    have hall:(aE p).all (fun e=>decide (e.length=1))=true:=by simp [aE]
    have hfl:(aE p).flatten.length=p.length:=by rw [cG (sz:=1) (fun e he=>by simpa using List.all_eq_true.1 hall e he),hpl,Nat.mul_one]
    rw [hpE] at htk
    generalize hAP:mE (M.take i)=AP at htk hel he2 het hvv
    simp only [hAP]
    generalize aE p=ip at gs htk hti hpl hall hfl
    repeat' (first|(refine u'S ?_;simp only [wS,simprocAttr,gs,hA,c1,e3,↓aM,↓aF])|refine u'Q fun _ _=>?_|refine aO ?_|refine aP (fun hg=>?_) fun hg=>?_|refine f8 (sz:=1) (by':=8) (mm:=ip.length) (new:=ip.flatten) (es:=[]) (by kernel_rfl) u'p (by simp) (lR hall) (by omega) (by simp only [List.length_nil];omega) (u'T ?_)|refine b8 (v':=i) (es:=[[.osl 4 0 0 (0+ip.length) 1 false,.int .i64 op]]) (by':=32) (by kernel_rfl) u'p hvv he2 (by simp [cJ]) (by simp) (by rw [hel];simp only [List.length_cons,List.length_nil];omega) (u'T ?_))
    refine hK.go ⟨i+1,hlt⟩ (bN [4] (kp [0,1,2,3]) hG0 (fun r hr=>absurd hr (Nat.not_lt_zero r)) ?_ ?_ ?_) (by simp only;omega)
    ·simp only [wS,simprocAttr,cS,Frz,and_true,true_or]
    ·rfl
    ·simp only [wS,simprocAttr,Nat.add_sub_cancel,htk,kI,iK]
     simp only [ToH,and_true]
     exact ⟨kr rfl (aD (by simp only [inL,inR,ht,Bool.and_self])) (by simp),kr rfl rfl (by simp),kr rfl rfl (by simp),.inr ⟨rfl,aD (fG (cF het) (by simp only [inL,inR,hti,Bool.and_self])),.inr ⟨.inl (by simp),.inr ⟨i,_,_,rfl,rfl,fQ (hU _) ⟨.inr (.osl (cs:=ip.flatten) (by simp) u'p (by omega) (fun e he=>by simpa using List.all_eq_true.1 hall e he) (by rw [List.drop_zero,List.take_of_length_le (by omega)]) hti),.inl rfl,trivial⟩⟩⟩⟩,rfl⟩
  ·have c1 : decide (((i : Nat) : Int) < ((MC.length : Nat) : Int)) = false := by simp; omega
   obtain rfl:i=M.length:=by omega
   have hml:=oH M
   have hm2:=AK M
   have hmt:=i7 M
   have hmw:=KT M
   have hmg:=fun (i:Nat) (s:Si)=>Q5 (M:=M) (i:=i) (s:=s)
   have hms:=fun (i:Nat) (s:Si)=>Q4 (M:=M) i s
   simp only [List.take_length]
   have hwl:IntKind.i64.wrap (((M.length:Nat):Int)+1)=((M.length+1:Nat):Int):=by rw [cB (by omega) (by omega)];omega
   by_cases hMe:M=[]
   ·subst hMe
    have hk0:kk=0:=by simpa using hkk
    subst hk0
    have hR':R=[([(x1:Int),(x2:Int)],(x3:Int))]:=hR
    have c0:decide ((0:Int)<((MC.length:Nat):Int))=false:=by rw [hn];rfl
    simp only [show mE ([]:List Si)=[] from rfl,dS,dM,List.length_nil]
    have hz3:inE aC [[AV.sl true [[.int .i64 (x1:Nat)],[.int .i64 (x2:Nat)]],.int .i64 (x3:Nat)]]=true:=rfl
    have hz4:[[AV.sl true [[.int .i64 (x1:Nat)],[.int .i64 (x2:Nat)]],.int .i64 (x3:Nat)]].map wkL=mC [([(x1:Int),(x2:Int)],(x3:Int))]:=rfl
    repeat' (first|(refine u'S ?_;simp only [wS,simprocAttr,c0,hwl,Bool.not_true,Bool.not_false])|refine u'Q fun _ _=>?_|refine aO ?_|refine aP (fun hg=>?_) fun hg=>?_|refine bH hG0 (ka) (u'T ?_)|refine bH hG0 (kh) (u'T ?_)|refine bH hG0 (kx1) (u'T ?_)|refine bH hG0 (kx2) (u'T ?_)|refine bH hG0 (kx3) (u'T ?_)|refine bH hG0 (kx4) (u'T ?_)|refine NT (r:=3) (sz:=2) (e:=[.sl true [[.int .i64 (x1:Nat)],[.int .i64 (x2:Nat)]],.int .i64 (x3:Nat)]) (by':=32) (by kernel_rfl) u'p (by simp [cJ]) (by simp) (u'T ?_))
    refine ⟨_,bN [3] (kp [1]) (l:=[(6,.ptr 1 0 0)]) (h:=[.none,.cells 0 [.sl false ([[.sl true [[.int .i64 (x1:Nat)],[.int .i64 (x2:Nat)]],.int .i64 (x3:Nat)]])]]) hG0 (fun r hr=>absurd hr (Nat.not_lt_zero r)) ?_ ?_ ?_,bV (v:=.agg [.sl false ([[.sl true [[.int .i64 (x1:Nat)],[.int .i64 (x2:Nat)]],.int .i64 (x3:Nat)]])]) rfl ?_ ?_⟩
    ·simp only [wS,simprocAttr,cS,Frz,and_true,true_or]
    ·rfl
    ·simp only [wS,simprocAttr]
     simp only [ToH,and_true]
     exact ⟨.inl rfl,.inr ⟨rfl,aD (by simp only [inL,inR,hz3,Bool.and_self]),.inr ⟨.inl (by simp),.inr ⟨0,_,_,rfl,rfl,.inr (.osl (cs:=[.sl true [[.int .i64 (x1:Nat)],[.int .i64 (x2:Nat)]],.int .i64 (x3:Nat)]) (by simp) u'p (rfl) (fun e he=>by rw [List.mem_singleton.1 he];rfl) (rfl) (hz3)),trivial⟩⟩⟩,rfl,rfl⟩
    ·simp only [wS,simprocAttr]
    ·rw [AM.wk,wkL,AM.wk,dI,hz4,wkL,hR']
   ·have hpos:0<M.length:=List.length_pos_iff.2 hMe
    have hmne:mE M≠[]:=fun e=>by rw [e] at hml;simp at hml;omega
    have hmf:(mE M).flatten.length=M.length*2:=by rw [cG hm2,hml]
    have hw1:rv 3 (M.length - 1) 2 (mE M)=.osl 3 (M.length - 1) 0 M.length 2 false:=by rw [rv,if_neg hmne,hml]
    have hw2:rvR (M.length - 1) (mE M)=.cells (M.length - 1) (mE M).flatten:=by rw [rvR,if_neg hmne]
    simp only [hw1,hw2]
    cases hk:M[kk]? with
    |none=>
     have hke:kk=M.length:=by have:=List.getElem?_eq_none_iff.1 hk;omega
     have c2:(((kk:Nat):Int)==((M.length:Nat):Int))=true:=by simp [hke]
     have hR':R=M++[([(x1:Int),(x2:Int)],(x3:Int))]:=by rw [hR,spF,hk]
     have hL2:∀ e∈mE M++[[AV.sl true [[.int .i64 (x1:Nat)],[.int .i64 (x2:Nat)]],.int .i64 (x3:Nat)]],e.length=2:=fun e he=>by
      rcases List.mem_append.1 he with he|he
      ·exact hm2 e he
      ·rw [List.mem_singleton.1 he];rfl
     have hLt:inE aC (mE M++[[AV.sl true [[.int .i64 (x1:Nat)],[.int .i64 (x2:Nat)]],.int .i64 (x3:Nat)]])=true:=iL fun e he=>by
      rcases List.mem_append.1 he with he|he
      ·exact jN hmt e he
      ·rw [List.mem_singleton.1 he];rfl
     have hLw:(mE M++[[AV.sl true [[.int .i64 (x1:Nat)],[.int .i64 (x2:Nat)]],.int .i64 (x3:Nat)]]).map wkL=mC (M++[([(x1:Int),(x2:Int)],(x3:Int))]):=by rw [List.map_append,hmw,kN];rfl
     repeat' (first|(refine u'S ?_;simp only [wS,simprocAttr,c1,c2,hwl,Bool.not_true,Bool.not_false])|refine u'Q fun _ _=>?_|refine aO ?_|refine aP (fun hg=>?_) fun hg=>?_|refine bH hG0 (ka) (u'T ?_)|refine bH hG0 (kh) (u'T ?_)|refine bH hG0 (kx1) (u'T ?_)|refine bH hG0 (kx2) (u'T ?_)|refine bH hG0 (kx3) (u'T ?_)|refine bH hG0 (kx4) (u'T ?_)|refine f7 (sz:=2) (by':=32) (mm:=1) (new:=[.sl true [[.int .i64 (x1:Nat)],[.int .i64 (x2:Nat)]],.int .i64 (x3:Nat)]) (by kernel_rfl) u'p hmf (by simp [cJ]) (by omega) (u'T ?_))
     refine ⟨_,bN [3] (kp [1]) (l:=[(6,.ptr 1 0 0)]) (h:=[.none,.cells 0 [.sl false (mE M++[[.sl true [[.int .i64 (x1:Nat)],[.int .i64 (x2:Nat)]],.int .i64 (x3:Nat)]])]]) hG0 (fun r hr=>absurd hr (Nat.not_lt_zero r)) ?_ ?_ ?_,bV (v:=.agg [.sl false (mE M++[[.sl true [[.int .i64 (x1:Nat)],[.int .i64 (x2:Nat)]],.int .i64 (x3:Nat)]])]) rfl ?_ ?_⟩
     ·simp only [wS,simprocAttr,cS,Frz,and_true,true_or]
     ·rfl
     ·simp only [wS,simprocAttr]
      simp only [ToH,and_true]
      exact ⟨.inl rfl,.inr ⟨rfl,aD (by simp only [inL,inR,hLt,Bool.and_self]),.inr ⟨.inl (by simp),.inr ⟨0,_,_,rfl,rfl,.inr (.osl (cs:=(mE M).flatten++[.sl true [[.int .i64 (x1:Nat)],[.int .i64 (x2:Nat)]],.int .i64 (x3:Nat)]) (by simp) u'p (by rw [List.length_append,hml];rfl) (hL2) (by rw [List.drop_zero,List.flatten_append,List.take_of_length_le (by simp only [List.length_append,hmf,List.length_cons,List.length_nil];omega)];simp) (hLt)),trivial⟩⟩⟩,rfl,rfl⟩
     ·simp only [wS,simprocAttr]
     ·rw [AM.wk,wkL,AM.wk,dI,hLw,wkL,hR']
    |some s=>
     have hlt:kk<M.length:=(List.getElem?_eq_some_iff.1 hk).1
     have c2:(((kk:Nat):Int)==((M.length:Nat):Int))=false:=by simp;omega
     have gs:=hmg kk s hk
     have hA:kk<(mE M).length:=by omega
     have c6:decide (((kk:Nat):Int)<((M.length:Nat):Int))=true:=by simp;omega
     have hb1:kk*2+1+1≤M.length*2:=by omega
     have hb2:kk*2+1≤M.length*2:=by omega
     have hfa:=HE hm2 gs
     have hfb:=E5 hm2 gs
     have hfc:2≤(List.drop (kk*2) (mE M).flatten).length:=by rw [List.length_drop,hmf];omega
     have hfd:1≤(List.drop (kk*2) (mE M).flatten).length:=by omega
     obtain rfl|rfl|rfl|rfl|rfl:hw=0∨hw=1∨hw=2∨hw=3∨hw=4:=by omega
     ·have hR':R=M++[([(x1:Int),(x2:Int)],(x3:Int))]:=by rw [hR,spF,hk];rfl
      have hL2:∀ e∈mE M++[[AV.sl true [[.int .i64 (x1:Nat)],[.int .i64 (x2:Nat)]],.int .i64 (x3:Nat)]],e.length=2:=fun e he=>by
       rcases List.mem_append.1 he with he|he
       ·exact hm2 e he
       ·rw [List.mem_singleton.1 he];rfl
      have hLt:inE aC (mE M++[[AV.sl true [[.int .i64 (x1:Nat)],[.int .i64 (x2:Nat)]],.int .i64 (x3:Nat)]])=true:=iL fun e he=>by
       rcases List.mem_append.1 he with he|he
       ·exact jN hmt e he
       ·rw [List.mem_singleton.1 he];rfl
      have hLw:(mE M++[[AV.sl true [[.int .i64 (x1:Nat)],[.int .i64 (x2:Nat)]],.int .i64 (x3:Nat)]]).map wkL=mC (M++[([(x1:Int),(x2:Int)],(x3:Int))]):=by rw [List.map_append,hmw,kN];rfl
      repeat' (first|(refine u'S ?_;simp only [wS,simprocAttr,c1,c2,hwl,Bool.not_true,Bool.not_false,gs,hA,hlt,c6,hmf,hb1,hb2,hfa,hfb,hfc,hfd])|refine u'Q fun _ _=>?_|refine aO ?_|refine aP (fun hg=>?_) fun hg=>?_|refine bH hG0 (ka) (u'T ?_)|refine bH hG0 (kh) (u'T ?_)|refine bH hG0 (kx1) (u'T ?_)|refine bH hG0 (kx2) (u'T ?_)|refine bH hG0 (kx3) (u'T ?_)|refine bH hG0 (kx4) (u'T ?_)|refine f7 (sz:=2) (by':=32) (mm:=1) (new:=[.sl true [[.int .i64 (x1:Nat)],[.int .i64 (x2:Nat)]],.int .i64 (x3:Nat)]) (by kernel_rfl) u'p hmf (by simp [cJ]) (by omega) (u'T ?_))
      refine ⟨_,bN [3] (kp [1]) (l:=[(6,.ptr 1 0 0)]) (h:=[.none,.cells 0 [.sl false (mE M++[[.sl true [[.int .i64 (x1:Nat)],[.int .i64 (x2:Nat)]],.int .i64 (x3:Nat)]])]]) hG0 (fun r hr=>absurd hr (Nat.not_lt_zero r)) ?_ ?_ ?_,bV (v:=.agg [.sl false (mE M++[[.sl true [[.int .i64 (x1:Nat)],[.int .i64 (x2:Nat)]],.int .i64 (x3:Nat)]])]) rfl ?_ ?_⟩
      ·simp only [wS,simprocAttr,cS,Frz,and_true,true_or]
      ·rfl
      ·simp only [wS,simprocAttr]
       simp only [ToH,and_true]
       exact ⟨.inl rfl,.inr ⟨rfl,aD (by simp only [inL,inR,hLt,Bool.and_self]),.inr ⟨.inl (by simp),.inr ⟨0,_,_,rfl,rfl,.inr (.osl (cs:=(mE M).flatten++[.sl true [[.int .i64 (x1:Nat)],[.int .i64 (x2:Nat)]],.int .i64 (x3:Nat)]) (by simp) u'p (by rw [List.length_append,hml];rfl) (hL2) (by rw [List.drop_zero,List.flatten_append,List.take_of_length_le (by simp only [List.length_append,hmf,List.length_cons,List.length_nil];omega)];simp) (hLt)),trivial⟩⟩⟩,rfl,rfl⟩
      ·simp only [wS,simprocAttr]
      ·rw [AM.wk,wkL,AM.wk,dI,hLw,wkL,hR']
     ·have hR':R=M.set kk (s.1,(x4:Int) - 1):=by rw [hR,spF,hk];rfl
      have hwx:IntKind.i64.wrap ((x4:Int) - 1)=(x4:Int) - 1:=cB (by omega) (by omega)
      have hME:=BU (M:=M) kk ((x4:Int) - 1) (pM s.1 s.1.isEmpty) (by rw [inR];exact aW _)
      have hfs:=IG (x:=.int .i64 ((x4:Int) - 1)) hm2 gs
      have hLl:((mE M).set kk [.sl s.1.isEmpty (aE s.1),.int .i64 ((x4:Int) - 1)]).length=M.length:=by rw [List.length_set,hml]
      generalize (mE M).set kk [.sl s.1.isEmpty (aE s.1),.int .i64 ((x4:Int) - 1)]=L at hME hfs hLl
      repeat' (first|(refine u'S ?_;simp only [wS,simprocAttr,c1,c2,hwl,Bool.not_true,Bool.not_false,gs,hA,hlt,c6,hmf,hb1,hb2,hfa,hfb,hfc,hfd,hwx])|refine u'Q fun _ _=>?_|refine aO ?_|refine aP (fun hg=>?_) fun hg=>?_|refine bH hG0 (ka) (u'T ?_)|refine bH hG0 (kh) (u'T ?_)|refine bH hG0 (kx1) (u'T ?_)|refine bH hG0 (kx2) (u'T ?_)|refine bH hG0 (kx3) (u'T ?_)|refine bH hG0 (kx4) (u'T ?_))
      refine ⟨_,bN [3] (kp [1]) (l:=[(6,.ptr 1 0 0)]) (h:=[.none,.cells 0 [.sl false L]]) hG0 (fun r hr=>absurd hr (Nat.not_lt_zero r)) ?_ ?_ ?_,bV (v:=.agg [.sl false L]) rfl ?_ ?_⟩
      ·simp only [wS,simprocAttr,cS,Frz,and_true,true_or]
      ·rfl
      ·simp only [wS,simprocAttr,hfs]
       simp only [ToH,and_true]
       exact ⟨.inl rfl,.inr ⟨rfl,aD (by simp only [inL,inR,hME.2.1,Bool.and_self]),.inr ⟨.inl (by simp),.inr ⟨0,_,_,rfl,rfl,.inr (.osl (cs:=L.flatten) (by simp) (by simp only [wS,simprocAttr,hfs];try exact rfl) (by rw [hLl]) (hME.2.2) (by rw [List.drop_zero,List.take_of_length_le (by rw [cG hME.2.2,hLl];exact Nat.le_refl _)]) (hME.2.1)),trivial⟩⟩⟩,rfl,rfl⟩
      ·simp only [wS,simprocAttr]
      ·rw [AM.wk,wkL,AM.wk,dI,hME.1,wkL,hR']
     ·have hR':R=M.set kk (s.1++[(x2:Int)],s.2):=by rw [hR,spF,hk];rfl
      have hse:=hno s hk rfl
      have hi0:aE s.1=[]:=by rw [hse];rfl
      have hE:s.1.isEmpty=true:=by rw [hse];rfl
      have hME:=BU (M:=M) (a:=.sl false [[.int .i64 (x2:Nat)]]) (p:=s.1++[(x2:Int)]) kk s.2 (by rw [hse];rfl) rfl
      have hfo:=qO (x:=.osl 4 0 0 (0+1) 1 false) hm2 gs
      have hLl:((mE M).set kk [.sl false [[.int .i64 (x2:Nat)]],.int .i64 s.2]).length=M.length:=by rw [List.length_set,hml]
      have hfr:=fun (rows:Nat→ARow) (h:j8 rows [4] [.osl 4 0 0 (0+1) 1 false,.int .i64 s.2] [.sl false [[.int .i64 (x2:Nat)]],.int .i64 s.2])=>u2 h (mE M) kk
      generalize (mE M).set kk [.sl false [[.int .i64 (x2:Nat)]],.int .i64 s.2]=L at hME hLl hfr
      repeat' (first|(refine u'S ?_;simp only [wS,simprocAttr,c1,c2,hwl,Bool.not_true,Bool.not_false,gs,hA,hlt,c6,hmf,hb1,hb2,hfa,hfb,hfc,hfd,hi0,hE])|refine u'Q fun _ _=>?_|refine aO ?_|refine aP (fun hg=>?_) fun hg=>?_|refine bH hG0 (ka) (u'T ?_)|refine bH hG0 (kh) (u'T ?_)|refine bH hG0 (kx1) (u'T ?_)|refine bH hG0 (kx2) (u'T ?_)|refine bH hG0 (kx3) (u'T ?_)|refine bH hG0 (kx4) (u'T ?_)|refine f8 (sz:=1) (by':=8) (mm:=1) (new:=[.int .i64 (x2:Nat)]) (es:=[]) (by kernel_rfl) u'p (by simp) (by simp [cJ]) (by omega) (by decide) (u'T ?_))
      refine ⟨_,Ref.trans (bN [4] (kp [1,3]) (l:=[(6,.ptr 1 0 0)]) (h:=[.none,.cells 0 [.osl 3 (M.length - 1) 0 M.length 2 false],.none,.cells (M.length - 1) L.flatten]) hG0 (fun r hr=>absurd hr (Nat.not_lt_zero r)) ?_ ?_ ?_) (bN [3] (kp [1]) (l:=[(6,.ptr 1 0 0)]) (h:=[.none,.cells 0 [.sl false L]]) hG0 (fun r hr=>absurd hr (Nat.not_lt_zero r)) ?_ ?_ ?_),bV (v:=.agg [.sl false L]) rfl ?_ ?_⟩
      ·simp only [wS,simprocAttr,cS,Frz,and_true,true_or]
      ·rfl
      ·simp only [wS,simprocAttr,hfo]
       simp only [ToH,and_true]
       exact ⟨.inl rfl,kr rfl rfl (by simp),.inl rfl,.inr ⟨rfl,aD (cF hME.2.1),.inr ⟨.inl (by simp),.inr ⟨M.length - 1,_,_,rfl,rfl,hfr _ ⟨.inr (.osl (cs:=[.int .i64 (x2:Nat)]) (by simp) (by simp only [wS,simprocAttr,hfo];try exact rfl) rfl (fun e he=>by rw [List.mem_singleton.1 he];rfl) rfl rfl),.inl rfl,trivial⟩⟩⟩⟩,rfl⟩
      ·simp only [wS,simprocAttr,cS,Frz,and_true,true_or]
      ·rfl
      ·simp only [wS,simprocAttr]
       simp only [ToH,and_true]
       exact ⟨.inl rfl,.inr ⟨rfl,aD (by simp only [inL,inR,hME.2.1,Bool.and_self]),.inr ⟨.inl (by simp),.inr ⟨0,_,_,rfl,rfl,.inr (.osl (cs:=L.flatten) (by simp) u'p (by rw [hLl]) (hME.2.2) (by rw [List.drop_zero,List.take_of_length_le (by rw [cG hME.2.2,hLl];exact Nat.le_refl _)]) (hME.2.1)),trivial⟩⟩⟩,rfl,rfl⟩
      ·simp only [wS,simprocAttr]
      ·rw [AM.wk,wkL,AM.wk,dI,hME.1,wkL,hR']
     ·have hR':R=M.set kk (s.1.take (s.1.length - 1),s.2):=by rw [hR,spF,hk];rfl
      by_cases hpe:s.1=[]
      ·have hMM:M.set kk (s.1.take (s.1.length - 1),s.2)=M:=by
        have:(s.1.take (s.1.length - 1),s.2)=s:=Prod.ext (by show s.1.take (s.1.length - 1)=s.1;rw [hpe];rfl) rfl
        rw [this]
        obtain ⟨h1,h2⟩:=List.getElem?_eq_some_iff.1 hk
        rw [← h2,List.set_getElem_self]
       have hip:(aE s.1).length=0:=by rw [hpe];rfl
       have hME:ME (mE M) (M.set kk (s.1.take (s.1.length - 1),s.2)):=hMM.symm ▸ ⟨hmw,hmt,hm2⟩
       have hLl:=hml
       have hfs:=hmf
       repeat' (first|(refine u'S ?_;simp only [wS,simprocAttr,c1,c2,hwl,Bool.not_true,Bool.not_false,gs,hA,hlt,c6,hmf,hb1,hb2,hfa,hfb,hfc,hfd,hip])|refine u'Q fun _ _=>?_|refine aO ?_|refine aP (fun hg=>?_) fun hg=>?_|refine bH hG0 (ka) (u'T ?_)|refine bH hG0 (kh) (u'T ?_)|refine bH hG0 (kx1) (u'T ?_)|refine bH hG0 (kx2) (u'T ?_)|refine bH hG0 (kx3) (u'T ?_)|refine bH hG0 (kx4) (u'T ?_))
       refine ⟨_,bN [3] (kp [1]) (l:=[(6,.ptr 1 0 0)]) (h:=[.none,.cells 0 [.sl false (mE M)]]) hG0 (fun r hr=>absurd hr (Nat.not_lt_zero r)) ?_ ?_ ?_,bV (v:=.agg [.sl false (mE M)]) rfl ?_ ?_⟩
       ·simp only [wS,simprocAttr,cS,Frz,and_true,true_or]
       ·rfl
       ·simp only [wS,simprocAttr,hfs]
        simp only [ToH,and_true]
        exact ⟨.inl rfl,.inr ⟨rfl,aD (by simp only [inL,inR,hME.2.1,Bool.and_self]),.inr ⟨.inl (by simp),.inr ⟨0,_,_,rfl,rfl,.inr (.osl (cs:=(mE M).flatten) (by simp) (by simp only [wS,simprocAttr,hfs];try exact rfl) (by rw [hLl]) (hME.2.2) (by rw [List.drop_zero,List.take_of_length_le (by rw [cG hME.2.2,hLl];exact Nat.le_refl _)]) (hME.2.1)),trivial⟩⟩⟩,rfl,rfl⟩
       ·simp only [wS,simprocAttr]
       ·rw [AM.wk,wkL,AM.wk,dI,hME.1,wkL,hR']
      ·have hME:=BU (M:=M) kk s.2 (AU s.1 (s.1.length - 1)) (uN _ _)
       have hip:(aE s.1).length=s.1.length:=by simp [aE]
       have hp0:0<s.1.length:=List.length_pos_iff.2 hpe
       have hpz:=hp s (List.mem_of_getElem? hk)
       have hall:(aE s.1).all (fun e=>decide (e.length=1))=true:=by simp [aE]
       have hdp:decide (((s.1.length:Nat):Int) > 0)=true:=by simp;exact hp0
       have hdq:decide ((0:Int)<((s.1.length:Nat):Int))=true:=by simp;exact hp0
       have hle:s.1.length - 1≤s.1.length:=Nat.sub_le ..
       have hE:s.1.isEmpty=false:=by
        cases hx:s.1 with
        |nil=>exact absurd hx hpe
        |cons=>rfl
       have hbx:((none:Option Nat)==some (s.1.length - 1))=false:=rfl
       have hwp:IntKind.i64.wrap ((s.1.length:Int) - 1)=((s.1.length - 1:Nat):Int):=by rw [cB (by omega) (by omega)];omega
       have hfs:=qO (x:=.sl false ((aE s.1).take (s.1.length - 1))) hm2 gs
       have hLl:((mE M).set kk [.sl false ((aE s.1).take (s.1.length - 1)),.int .i64 s.2]).length=M.length:=by rw [List.length_set,hml]
       generalize (mE M).set kk [.sl false ((aE s.1).take (s.1.length - 1)),.int .i64 s.2]=L at hME hfs hLl
       repeat' (first|(refine u'S ?_;simp only [wS,simprocAttr,c1,c2,hwl,Bool.not_true,Bool.not_false,gs,hA,hlt,c6,hmf,hb1,hb2,hfa,hfb,hfc,hfd,hip,hwp,hp0,hdp,hdq,hall,hle,hE,hbx,Bool.false_or,Bool.and_false,Bool.false_and,Nat.sub_zero,List.drop_zero])|refine u'Q fun _ _=>?_|refine aO ?_|refine aP (fun hg=>?_) fun hg=>?_|refine bH hG0 (ka) (u'T ?_)|refine bH hG0 (kh) (u'T ?_)|refine bH hG0 (kx1) (u'T ?_)|refine bH hG0 (kx2) (u'T ?_)|refine bH hG0 (kx3) (u'T ?_)|refine bH hG0 (kx4) (u'T ?_))
       refine ⟨_,bN [3] (kp [1]) (l:=[(6,.ptr 1 0 0)]) (h:=[.none,.cells 0 [.sl false L]]) hG0 (fun r hr=>absurd hr (Nat.not_lt_zero r)) ?_ ?_ ?_,bV (v:=.agg [.sl false L]) rfl ?_ ?_⟩
       ·simp only [wS,simprocAttr,cS,Frz,and_true,true_or]
       ·rfl
       ·simp only [wS,simprocAttr,hfs]
        simp only [ToH,and_true]
        exact ⟨.inl rfl,.inr ⟨rfl,aD (by simp only [inL,inR,hME.2.1,Bool.and_self]),.inr ⟨.inl (by simp),.inr ⟨0,_,_,rfl,rfl,.inr (.osl (cs:=L.flatten) (by simp) (by simp only [wS,simprocAttr,hfs];try exact rfl) (by rw [hLl]) (hME.2.2) (by rw [List.drop_zero,List.take_of_length_le (by rw [cG hME.2.2,hLl];exact Nat.le_refl _)]) (hME.2.1)),trivial⟩⟩⟩,rfl,rfl⟩
       ·simp only [wS,simprocAttr]
       ·rw [AM.wk,wkL,AM.wk,dI,hME.1,wkL,hR']
     ·have hR':R=M++[s]:=by rw [hR,spF,hk];rfl
      have hts:inE aC (aE s.1)=true:=aW _
      have hL2:∀ e∈mE M++[[AV.sl s.1.isEmpty (aE s.1),.int .i64 s.2]],e.length=2:=fun e he=>by
       rcases List.mem_append.1 he with he|he
       ·exact hm2 e he
       ·rw [List.mem_singleton.1 he];rfl
      have hLt:inE aC (mE M++[[AV.sl s.1.isEmpty (aE s.1),.int .i64 s.2]])=true:=iL fun e he=>by
       rcases List.mem_append.1 he with he|he
       ·exact jN hmt e he
       ·rw [List.mem_singleton.1 he];simp only [inL,inR,hts,Bool.and_self]
      have hLw:(mE M++[[AV.sl s.1.isEmpty (aE s.1),.int .i64 s.2]]).map wkL=mC (M++[s]):=by rw [List.map_append,hmw,kN];refine congrArg (mC M++·) ?_;show [[AM.wk (.sl s.1.isEmpty (aE s.1)),AV.int .i64 s.2]]=[[.sl false (aE s.1),.int .i64 s.2]];rw [pM]
      repeat' (first|(refine u'S ?_;simp only [wS,simprocAttr,c1,c2,hwl,Bool.not_true,Bool.not_false,gs,hA,hlt,c6,hmf,hb1,hb2,hfa,hfb,hfc,hfd])|refine u'Q fun _ _=>?_|refine aO ?_|refine aP (fun hg=>?_) fun hg=>?_|refine bH hG0 (ka) (u'T ?_)|refine bH hG0 (kh) (u'T ?_)|refine bH hG0 (kx1) (u'T ?_)|refine bH hG0 (kx2) (u'T ?_)|refine bH hG0 (kx3) (u'T ?_)|refine bH hG0 (kx4) (u'T ?_)|refine f7 (sz:=2) (by':=32) (mm:=1) (new:=[.sl s.1.isEmpty (aE s.1),.int .i64 s.2]) (by kernel_rfl) u'p hmf (by simp [cJ]) (by omega) (u'T ?_))
      refine ⟨_,bN [3] (kp [1]) (l:=[(6,.ptr 1 0 0)]) (h:=[.none,.cells 0 [.sl false (mE M++[[.sl s.1.isEmpty (aE s.1),.int .i64 s.2]])]]) hG0 (fun r hr=>absurd hr (Nat.not_lt_zero r)) ?_ ?_ ?_,bV (v:=.agg [.sl false (mE M++[[.sl s.1.isEmpty (aE s.1),.int .i64 s.2]])]) rfl ?_ ?_⟩
      ·simp only [wS,simprocAttr,cS,Frz,and_true,true_or]
      ·rfl
      ·simp only [wS,simprocAttr]
       simp only [ToH,and_true]
       exact ⟨.inl rfl,.inr ⟨rfl,aD (by simp only [inL,inR,hLt,Bool.and_self]),.inr ⟨.inl (by simp),.inr ⟨0,_,_,rfl,rfl,.inr (.osl (cs:=(mE M).flatten++[.sl s.1.isEmpty (aE s.1),.int .i64 s.2]) (by simp) u'p (by rw [List.length_append,hml];rfl) (hL2) (by rw [List.drop_zero,List.flatten_append,List.take_of_length_le (by simp only [List.length_append,hmf,List.length_cons,List.length_nil];omega)];simp) (hLt)),trivial⟩⟩⟩,rfl,rfl⟩
      ·simp only [wS,simprocAttr]
      ·rw [AM.wk,wkL,AM.wk,dI,hLw,wkL,hR']
def bE (M:List Si) (kk:Nat) (e:List AV) (i:Nat):List (List AV):=(mE (M.take i)).set kk e
def bT (kk:Nat) (P:List AV) (i:Nat):List ARow:=if i≤kk then [] else [.cells 0 P]
theorem HM {kk i:Nat} {P:List AV} (h:i≤kk):bT kk P i=[]:=if_pos h
theorem HN {kk i:Nat} {P:List AV} (h:kk<i):bT kk P i=[.cells 0 P]:=if_neg (by omega)
theorem zA {M:List Si} {kk i:Nat} {e:List AV} (h:i≤kk):bE M kk e i=mE (M.take i):=List.set_eq_of_length_le (by rw [oH,List.length_take];omega)
theorem QL {M:List Si} {kk i:Nat} {e:List AV} (h:i≤M.length):(bE M kk e i).length=i:=by rw [bE,List.length_set,oH,List.length_take];omega
theorem LS {M:List Si} {kk i:Nat} {e:List AV} (he:e.length=2):∀ x∈bE M kk e i,x.length=2:=fun x hx=>by
 rcases List.mem_or_eq_of_mem_set hx with hx|rfl
 ·exact AK _ x hx
 ·exact he
theorem T6 {M:List Si} {kk i:Nat} {e:List AV} {q:Nat→Bool} (he:inL q e=true):inE q (bE M kk e i)=true:=sH (aA (i7 _)) he _
theorem S9 {M:List Si} {kk:Nat} {e:List AV} {s:Si} (hs:M[kk]? =some s):bE M kk e (kk+1)=mE (M.take kk)++[e]:=by
 have hl:kk<M.length:=(List.getElem?_eq_some_iff.1 hs).1
 have hk:(mE (M.take kk)).length=kk:=by rw [oH,List.length_take];omega
 rw [bE,mE,eY hs,List.set_append]
 have hk2:=hk
 rw [mE] at hk2
 rw [if_neg (by rw [hk2];omega),hk2,Nat.sub_self]
 rfl
theorem S8 {M:List Si} {kk i:Nat} {e:List AV} {s:Si} (h:kk<i) (hs:M[i]? =some s):bE M kk e (i+1)=bE M kk e i++[[.sl s.1.isEmpty (aE s.1),.int .i64 s.2]]:=by
 have hl:i<M.length:=(List.getElem?_eq_some_iff.1 hs).1
 have hk:(mE (M.take i)).length=i:=by rw [oH,List.length_take];omega
 rw [bE,mE,eY hs,List.set_append]
 have hk2:=hk
 rw [mE] at hk2
 rw [if_pos (by rw [hk2];omega)]
 rfl
set_option maxHeartbeats 16000000 in
theorem MN (M:List Si) (hM:M.length≤1000) (hp:∀ s∈M,s.1.length≤100000000000) (how by0:Int) (kk x1 x2 x3 x4:Nat) (pk:List Int) (ok:Int) (hkM:M[kk]? =some (pk,ok)) (hpk:pk≠[])
  (ka:Pure Tryz.prog G0 19 [.int .i64 by0,.int .i64 ((M.length+1:Nat):Int)] (.int .i64 (kk:Nat))) (kh:Pure Tryz.prog G0 19 [.int .i64 how,.int .i64 5] (.int .i64 (2:Nat)))
  (kx2:Pure Tryz.prog G0 19 [.int .i64 (IntKind.i64.wrap (by0.tdiv 3)),.int .i64 3] (.int .i64 (x2:Nat))):Pure Tryz.prog G0 12 [mV M,.int .i64 how,.int .i64 by0] (mV (spF M kk 2 x1 x2 x3 x4)):=by
 have ht:=cK M
 have hn:=gQ M
 have hg:=fun (i:Nat) (s:Si)=>jG (M:=M) (i:=i) (s:=s)
 have hkl:kk<M.length:=(List.getElem?_eq_some_iff.1 hkM).1
 have hR':spF M kk 2 x1 x2 x3 x4=M.set kk (pk++[(x2:Int)],ok):=by rw [spF,hkM];rfl
 rw [hR']
 obtain ⟨R,hR⟩:∃ R,R=M.set kk (pk++[(x2:Int)],ok):=⟨_,rfl⟩
 have htV:=sF R
 rw [← hR]
 simp only [mV] at htV ⊢
 generalize mC M=MC at ht hn hg ⊢
 have hpkl:(aE pk).length=pk.length:=by simp [aE]
 have hpka:(aE pk).all (fun e=>decide (e.length=1))=true:=by simp [aE]
 have hpkf:(aE pk).flatten.length=pk.length:=by rw [cG (sz:=1) (fun e he=>by simpa using List.all_eq_true.1 hpka e he),hpkl,Nat.mul_one]
 have hpkt:inE aC (aE pk)=true:=aW pk
 have hpkp:0<pk.length:=List.length_pos_iff.2 hpk
 have hpkz:pk.length≤100000000000:=hp _ (List.mem_of_getElem? hkM)
 obtain ⟨ek,hek⟩:∃ ek,ek=[AV.osl 4 0 0 (0+(aE pk).length) 1 false,AV.int .i64 ok]:=⟨_,rfl⟩
 have hek2:ek.length=2:=by rw [hek];rfl
 have hekq:inL (kp [0,1,2,3,4]) ek=true:=by rw [hek];rfl
 obtain ⟨PK,hPK⟩:∃ PK,PK=(aE pk).flatten:=⟨_,rfl⟩
 have hPKt:inL aC PK=true:=by rw [hPK];exact cF hpkt
 have hPKl:PK.length=pk.length:=by rw [hPK];exact hpkf
 refine aU hG0 Tryz.func12 rfl (by kernel_rfl) (by simp [Tryz.ntmps12]) (by simp only [inL,inR,ht,Bool.and_self]) (by exact htV) ?_
 simp only [Tryz.ntmps12,aH,Nat.reduceAdd]
 refine jD ?_
 repeat' (first|(refine u'S ?_;simp only [wS,simprocAttr])|refine u'Q fun _ _=>?_|refine aV ?_|refine aR (fun hg=>?_) fun hg=>?_|fail)
 refine aJ (α:={i:Nat // i≤M.length}) (fun i=>[(1,.int .i64 how),(2,.int .i64 by0),(3,.ptr 0 0 0),(6,.ptr 1 0 0),(7,.ptr 2 0 0),(8,.int .i64 (i.1:Nat))]) (fun i=>[.cells 0 [.sl false MC],.cells 0 [.sl true []],.cells 0 [rv 3 (i.1 - 1) 2 (bE M kk ek i.1)],rvR (i.1 - 1) (bE M kk ek i.1)]++bT kk PK i.1) (fun i=>M.length - i.1) ⟨0,Nat.zero_le _⟩ (bN [] (kp [0,1,2,3]) hG0 (fun r hr=>absurd hr (Nat.not_lt_zero r)) ?_ ?_ ?_) ?_
 ·simp only [wS,simprocAttr,cS,Frz,and_true,true_or]
 ·rfl
 ·simp only [wS,simprocAttr,zA (M:=M) (e:=ek) (Nat.zero_le kk),HM (P:=PK) (Nat.zero_le kk),List.append_nil,List.take_zero,mE,List.map_nil,dS,dM]
  simp only [ToH,and_true]
  exact ⟨kr rfl (aD (by simp only [inL,inR,ht,Bool.and_self])) (by simp),kr rfl rfl (by simp),.inr ⟨rfl,rfl,.inr ⟨.inl (by simp),.inr ⟨0,_,_,rfl,rfl,.inr .toRsv,trivial⟩⟩⟩⟩
 ·rintro ⟨i,hi⟩ K hK
  try simp only at hi
  by_cases hlt:i<M.length
  ·have c1:decide (((i:Nat):Int)<((MC.length:Nat):Int))=true:=by simp;omega
   have e3:=aL (k:=i) hlt (by omega)
   obtain ⟨s,hs⟩:∃ s,M[i]? =some s:=⟨_,List.getElem?_eq_getElem hlt⟩
   have gs:=hg i s hs
   have hA:i<MC.length:=by omega
   have hpz:=hp s (List.mem_of_getElem? hs)
   have hsk:i=kk→s=(pk,ok):=fun e=>by
    subst e
    exact Option.some.inj (hs.symm.trans hkM)
   have hhi:=fun h:kk<i=>S8 (e:=ek) h hs
   have hlo:i<kk→bE M kk ek (i+1)=mE (M.take i)++[[.sl s.1.isEmpty (aE s.1),.int .i64 s.2]]:=fun h=>by
    rw [zA h,mE,mE,eY hs]
   obtain ⟨p,op⟩:=s
   have hel:(bE M kk ek i).length=i:=QL hi
   have he2:=LS (M:=M) (kk:=kk) (i:=i) hek2
   have hti:inE aC (aE p)=true:=aW p
   have hvv:i=if bE M kk ek i=[] then 0 else i - 1+1:=by
    have:=BZ (l:=bE M kk ek i)
    rw [hel] at this;exact this
   simp only at gs hpz hhi hlo
   have hpl:(aE p).length=p.length:=by simp [aE]
   have hall:(aE p).all (fun e=>decide (e.length=1))=true:=by simp [aE]
   have hfl:(aE p).flatten.length=p.length:=by rw [cG (sz:=1) (fun e he=>by simpa using List.all_eq_true.1 hall e he),hpl,Nat.mul_one]
   have hrow:=fun (rows:Nat→ARow) (A:List (List AV)) (r:Nat) (hr:aT rows r 0=some (aE p).flatten) (hpp:0<p.length)=>show j8 rows [r] (A.flatten++[.osl r 0 0 (aE p).length 1 false,.int .i64 op]) (A.flatten++[.sl false (aE p),.int .i64 op]) from fQ (hU A.flatten) ⟨.inr (.osl (cs:=(aE p).flatten) (by simp) hr (by omega) (fun e he=>by simpa using List.all_eq_true.1 hall e he) (by rw [List.drop_zero,List.take_of_length_le (by omega)]) hti),.inl rfl,trivial⟩
   rcases Nat.lt_trichotomy i kk with hik|hik|hik
   ·have htk:=hlo hik
    have hb1:=HM (P:=PK) (Nat.le_of_lt hik)
    have hb2:=HM (P:=PK) (Nat.succ_le_of_lt hik)
    have het:inE aC (bE M kk ek i)=true:=by rw [zA (Nat.le_of_lt hik)];exact i7 _
    rw [← zA (e:=ek) (Nat.le_of_lt hik)] at htk
    generalize hAP:bE M kk ek i=AP at htk hel he2 het hvv
    simp only [hAP,hb1,List.append_nil]
    by_cases hpe:p=[]
    ·subst hpe
     have hp0:aE ([]:List Int)=[]:=rfl
     simp only [hp0,List.isEmpty_nil] at gs htk
     repeat' (first|(refine u'S ?_;simp only [wS,simprocAttr,gs,hA,c1,e3,↓aM,↓aF])|refine u'Q fun _ _=>?_|refine aO ?_|refine aP (fun hg=>?_) fun hg=>?_|refine mO (sz:=1) (by':=8) (new:=[]) (by kernel_rfl) (by simp) (by simp [cJ]) (by simp) (u'T ?_)|refine b8 (v':=i) (es:=[[.sl true [],.int .i64 op]]) (by':=32) (by kernel_rfl) u'p hvv he2 (by simp [cJ]) (by simp) (by rw [hel];simp only [List.length_cons,List.length_nil];omega) (u'T ?_))
     refine hK.go ⟨i+1,hlt⟩ (bN [] (kp [0,1,2,3]) hG0 (fun r hr=>absurd hr (Nat.not_lt_zero r)) ?_ ?_ ?_) (by simp only;omega)
     ·simp only [wS,simprocAttr,cS,Frz,and_true,true_or]
     ·rfl
     ·simp only [wS,simprocAttr,Nat.add_sub_cancel,htk,hb2,kI,iK,List.append_nil]
      simp only [ToH,and_true]
      exact ⟨kr rfl (aD (by simp only [inL,inR,ht,Bool.and_self])) (by simp),kr rfl rfl (by simp),kr rfl rfl (by simp),kr rfl (aD (fG (cF het) rfl)) (by simp)⟩
    ·have hpE:p.isEmpty=false:=by cases p with
      |nil=>exact absurd rfl hpe
      |cons=>rfl
     have hppos:0<p.length:=List.length_pos_iff.2 hpe
     rw [hpE] at htk
     generalize aE p=ip at gs htk hti hpl hall hfl hrow
     repeat' (first|(refine u'S ?_;simp only [wS,simprocAttr,gs,hA,c1,e3,↓aM,↓aF])|refine u'Q fun _ _=>?_|refine aO ?_|refine aP (fun hg=>?_) fun hg=>?_|refine f8 (sz:=1) (by':=8) (mm:=ip.length) (new:=ip.flatten) (es:=[]) (by kernel_rfl) u'p (by simp) (lR hall) (by omega) (by simp only [List.length_nil];omega) (u'T ?_)|refine b8 (v':=i) (es:=[[.osl 4 0 0 (0+ip.length) 1 false,.int .i64 op]]) (by':=32) (by kernel_rfl) u'p hvv he2 (by simp [cJ]) (by simp) (by rw [hel];simp only [List.length_cons,List.length_nil];omega) (u'T ?_))
     refine hK.go ⟨i+1,hlt⟩ (bN [4] (kp [0,1,2,3]) hG0 (fun r hr=>absurd hr (Nat.not_lt_zero r)) ?_ ?_ ?_) (by simp only;omega)
     ·simp only [wS,simprocAttr,cS,Frz,and_true,true_or]
     ·rfl
     ·simp only [wS,simprocAttr,Nat.add_sub_cancel,htk,hb2,kI,iK,List.append_nil]
      simp only [ToH,and_true]
      refine ⟨kr rfl (aD (by simp only [inL,inR,ht,Bool.and_self])) (by simp),kr rfl rfl (by simp),kr rfl rfl (by simp),.inr ⟨rfl,aD (fG (cF het) (by simp only [inL,inR,hti,Bool.and_self])),.inr ⟨.inl (by simp),.inr ⟨i,_,_,rfl,rfl,hrow _ _ 4 ?_ hppos⟩⟩⟩,rfl⟩
      exact u'p
   ·obtain ⟨rfl,rfl⟩:=Prod.mk.inj (hsk hik)
    have htk:bE M kk ek (i+1)=bE M kk ek i++[ek]:=by rw [hik,S9 hkM,zA (Nat.le_refl _)]
    have hb1:=HM (P:=PK) (Nat.le_of_eq hik)
    have hb2:=HN (P:=PK) (Nat.lt_succ_of_le (Nat.le_of_eq hik.symm))
    have het:inE aC (bE M kk ek i)=true:=by rw [zA (Nat.le_of_eq hik)];exact i7 _
    generalize hAP:bE M kk ek i=AP at htk hel he2 het hvv
    simp only [hAP,hb1,List.append_nil]
    have hpE:p.isEmpty=false:=by cases p with
     |nil=>exact absurd rfl hpk
     |cons=>rfl
    clear hrow
    rw [hpE] at*
    generalize aE p=ip at*
    repeat' (first|(refine u'S ?_;simp only [wS,simprocAttr,gs,hA,c1,e3,↓aM,↓aF])|refine u'Q fun _ _=>?_|refine aO ?_|refine aP (fun hg=>?_) fun hg=>?_|refine f8 (sz:=1) (by':=8) (mm:=ip.length) (new:=ip.flatten) (es:=[]) (by kernel_rfl) u'p (by simp) (lR hall) (by omega) (by simp only [List.length_nil];omega) (u'T ?_)|refine b8 (v':=i) (es:=[[.osl 4 0 0 (0+ip.length) 1 false,.int .i64 op]]) (by':=32) (by kernel_rfl) u'p hvv he2 (by simp [cJ]) (by simp) (by rw [hel];simp only [List.length_cons,List.length_nil];omega) (u'T ?_))
    refine hK.go ⟨i+1,hlt⟩ (bN [] (kp [0,1,2,3,4]) hG0 (fun r hr=>absurd hr (Nat.not_lt_zero r)) ?_ ?_ ?_) (by simp only;omega)
    ·simp only [wS,simprocAttr,cS,Frz,and_true,true_or]
    ·rfl
    ·simp only [wS,simprocAttr,Nat.add_sub_cancel,htk,hb2,kI,iK,List.cons_append,List.nil_append]
     simp only [ToH,and_true,hek,hPK,Nat.zero_add]
     exact ⟨kr rfl (aD (by simp only [inL,inR,ht,Bool.and_self])) (by simp),kr rfl rfl (by simp),kr rfl rfl (by simp),kr rfl (by rw [aG];exact fG (aD (cF het)) rfl) (by simp),kr rfl (aD (cF hti)) (by simp)⟩
   ·have htk:=hhi hik
    have hb1:=HN (P:=PK) hik
    have hb2:=HN (P:=PK) (Nat.lt_succ_of_lt hik)
    have het:=T6 (M:=M) (kk:=kk) (i:=i) hekq
    generalize hAP:bE M kk ek i=AP at htk hel he2 het hvv
    simp only [hAP,hb1,List.cons_append,List.nil_append]
    by_cases hpe:p=[]
    ·subst hpe
     have hp0:aE ([]:List Int)=[]:=rfl
     simp only [hp0,List.isEmpty_nil] at gs htk
     repeat' (first|(refine u'S ?_;simp only [wS,simprocAttr,gs,hA,c1,e3,↓aM,↓aF])|refine u'Q fun _ _=>?_|refine aO ?_|refine aP (fun hg=>?_) fun hg=>?_|refine mO (sz:=1) (by':=8) (new:=[]) (by kernel_rfl) (by simp) (by simp [cJ]) (by simp) (u'T ?_)|refine b8 (v':=i) (es:=[[.sl true [],.int .i64 op]]) (by':=32) (by kernel_rfl) u'p hvv he2 (by simp [cJ]) (by simp) (by rw [hel];simp only [List.length_cons,List.length_nil];omega) (u'T ?_))
     refine hK.go ⟨i+1,hlt⟩ (bN [] (kp [0,1,2,3,4]) hG0 (fun r hr=>absurd hr (Nat.not_lt_zero r)) ?_ ?_ ?_) (by simp only;omega)
     ·simp only [wS,simprocAttr,cS,Frz,and_true,true_or]
     ·rfl
     ·simp only [wS,simprocAttr,Nat.add_sub_cancel,htk,hb2,kI,iK,List.cons_append,List.nil_append]
      simp only [ToH,and_true]
      exact ⟨kr rfl (aD (by simp only [inL,inR,ht,Bool.and_self])) (by simp),kr rfl rfl (by simp),kr rfl rfl (by simp),kr rfl (fG (cF het) rfl) (by simp),kr rfl (aD hPKt) (by simp)⟩
    ·have hpE:p.isEmpty=false:=by cases p with
      |nil=>exact absurd rfl hpe
      |cons=>rfl
     have hppos:0<p.length:=List.length_pos_iff.2 hpe
     rw [hpE] at htk
     generalize aE p=ip at gs htk hti hpl hall hfl hrow
     repeat' (first|(refine u'S ?_;simp only [wS,simprocAttr,gs,hA,c1,e3,↓aM,↓aF])|refine u'Q fun _ _=>?_|refine aO ?_|refine aP (fun hg=>?_) fun hg=>?_|refine f8 (sz:=1) (by':=8) (mm:=ip.length) (new:=ip.flatten) (es:=[]) (by kernel_rfl) u'p (by simp) (lR hall) (by omega) (by simp only [List.length_nil];omega) (u'T ?_)|refine b8 (v':=i) (es:=[[.osl 5 0 0 (0+ip.length) 1 false,.int .i64 op]]) (by':=32) (by kernel_rfl) u'p hvv he2 (by simp [cJ]) (by simp) (by rw [hel];simp only [List.length_cons,List.length_nil];omega) (u'T ?_))
     refine hK.go ⟨i+1,hlt⟩ (bN [5] (kp [0,1,2,3,4]) hG0 (fun r hr=>absurd hr (Nat.not_lt_zero r)) ?_ ?_ ?_) (by simp only;omega)
     ·simp only [wS,simprocAttr,cS,Frz,and_true,true_or]
     ·rfl
     ·simp only [wS,simprocAttr,Nat.add_sub_cancel,htk,hb2,kI,iK,List.cons_append,List.nil_append]
      simp only [ToH,and_true]
      refine ⟨kr rfl (aD (by simp only [inL,inR,ht,Bool.and_self])) (by simp),kr rfl rfl (by simp),kr rfl rfl (by simp),.inr ⟨rfl,fG (cF het) (aD (by simp only [inL,inR,hti,Bool.and_self])),.inr ⟨.inl (by simp),.inr ⟨i,_,_,rfl,rfl,hrow _ _ 5 ?_ hppos⟩⟩⟩,kr rfl (aD hPKt) (by simp),rfl⟩
      exact u'p
  ·have c1:decide (((i:Nat):Int)<((MC.length:Nat):Int))=false:=by simp;omega
   obtain rfl:i=M.length:=by omega
   have hb1:=HN (P:=PK) hkl
   have hml:=oH M
   have hek':ek=[.osl 4 0 0 pk.length 1 false,.int .i64 ok]:=by rw [hek,Nat.zero_add,hpkl]
   obtain ⟨L0,hL0⟩:∃ L0,L0=(mE M).set kk ek:=⟨_,rfl⟩
   have hLL:bE M kk ek M.length=L0:=by rw [hL0,bE,List.take_length]
   have hlen:L0.length=M.length:=by rw [hL0,List.length_set,hml]
   have h2:∀ e∈L0,e.length=2:=hLL ▸ LS hek2
   have hmf:L0.flatten.length=M.length*2:=by rw [cG h2,hlen]
   have gq:L0[kk]? =some [.osl 4 0 0 pk.length 1 false,.int .i64 ok]:=by
    rw [hL0,List.getElem?_set_self (by omega),hek']
   have hfa:=HE h2 gq
   have hss:=fun e:List AV=>show L0.set kk e=(mE M).set kk e by rw [hL0,List.set_set]
   have hfo:=fun x:AV=>(qO (x:=x) h2 gq).trans (congrArg List.flatten (hss [x,.int .i64 ok]))
   have hfd:1≤(List.drop (kk*2) L0.flatten).length:=by rw [List.length_drop,hmf];omega
   have hb2:kk*2+1≤M.length*2:=by omega
   have c2:(((kk:Nat):Int)==((M.length:Nat):Int))=false:=by simp;omega
   have hwl:IntKind.i64.wrap (((M.length:Nat):Int)+1)=((M.length+1:Nat):Int):=by rw [cB (by omega) (by omega)];omega
   have hne:L0≠[]:=fun e=>by rw [e] at hlen;simp at hlen;omega
   have hw1:rv 3 (M.length - 1) 2 L0=.osl 3 (M.length - 1) 0 M.length 2 false:=by rw [rv,if_neg hne,hlen]
   have hw2:rvR (M.length - 1) L0=.cells (M.length - 1) L0.flatten:=by rw [rvR,if_neg hne]
   have hPK1:PK.length=pk.length*1:=by omega
   have hME:=BU (M:=M) (a:=.sl false (aE (pk++[(x2:Int)]))) (p:=pk++[(x2:Int)]) kk ok (pM _ _) (by rw [inR];exact aW _)
   have hLl:((mE M).set kk [.sl false (aE (pk++[(x2:Int)])),.int .i64 ok]).length=M.length:=by rw [List.length_set,hml]
   have hfr:=fun (rows:Nat→ARow) (x:AV) (h:j8 rows [4] [x,.int .i64 ok] [.sl false (aE (pk++[(x2:Int)])),.int .i64 ok])=>u2 h (mE M) kk
   generalize (mE M).set kk [.sl false (aE (pk++[(x2:Int)])),.int .i64 ok]=L at hME hLl hfr
   simp only [hLL,hb1,hw1,hw2,List.cons_append,List.nil_append]
   repeat' (first|(refine u'S ?_;simp only [wS,simprocAttr,c1,c2,hwl,Bool.not_true,Bool.not_false,hkl,hfa,hfd,hmf,hb2,hpkl])|refine u'Q fun _ _=>?_|refine aO ?_|refine aP (fun hg=>?_) fun hg=>?_|refine bH hG0 (ka) (u'T ?_)|refine bH hG0 (kh) (u'T ?_)|refine bH hG0 (kx2) (u'T ?_)|refine f7 (sz:=1) (by':=8) (mm:=1) (new:=[.int .i64 (x2:Nat)]) (by kernel_rfl) u'p hPK1 (by simp [cJ]) (by omega) (u'T ?_))
   refine ⟨_,Ref.trans (bN [4] (kp [1,3]) (l:=[(6,.ptr 1 0 0)]) (h:=[.none,.cells 0 [.osl 3 (M.length - 1) 0 M.length 2 false],.none,.cells (M.length - 1) L.flatten]) hG0 (fun r hr=>absurd hr (Nat.not_lt_zero r)) ?_ ?_ ?_) (bN [3] (kp [1]) (l:=[(6,.ptr 1 0 0)]) (h:=[.none,.cells 0 [.sl false L]]) hG0 (fun r hr=>absurd hr (Nat.not_lt_zero r)) ?_ ?_ ?_),bV (v:=.agg [.sl false L]) rfl ?_ ?_⟩
   ·simp only [wS,simprocAttr,cS,Frz,and_true,true_or]
   ·rfl
   ·simp only [wS,simprocAttr,hfo]
    simp only [ToH,and_true]
    refine ⟨.inl rfl,kr rfl rfl (by simp),.inl rfl,.inr ⟨rfl,aD (cF hME.2.1),.inr ⟨.inl (by simp),.inr ⟨M.length - 1,_,_,rfl,rfl,hfr _ _ ⟨.inr (.osl (cs:=PK++[.int .i64 (x2:Nat)]) (by simp) ?_ ?_ ?_ ?_ (aW _)),.inl rfl,trivial⟩⟩⟩⟩,rfl⟩
    ·simp only [wS,simprocAttr,hfo];try exact rfl
    ·simp [aE]
    ·intro e he
     obtain ⟨z,_,rfl⟩:=List.mem_map.1 he
     rfl
    ·rw [List.drop_zero,List.take_of_length_le (by rw [List.length_append,hPKl];simp),hPK]
     simp [aE]
   ·simp only [wS,simprocAttr,cS,Frz,and_true,true_or]
   ·rfl
   ·simp only [wS,simprocAttr]
    simp only [ToH,and_true]
    exact ⟨.inl rfl,.inr ⟨rfl,aD (by simp only [inL,inR,hME.2.1,Bool.and_self]),.inr ⟨.inl (by simp),.inr ⟨0,_,_,rfl,rfl,.inr (.osl (cs:=L.flatten) (by simp) u'p (by rw [hLl]) (hME.2.2) (by rw [List.drop_zero,List.take_of_length_le (by rw [cG hME.2.2,hLl];exact Nat.le_refl _)]) (hME.2.1)),trivial⟩⟩⟩,rfl,rfl⟩
   ·simp only [wS,simprocAttr]
   ·rw [AM.wk,wkL,AM.wk,dI,hME.1,wkL,hR]
theorem xX (M:List Si) (B:Nat) (hB:B≤100000000000) (hM:M.length≤1000) (hp:∀ s∈M,s.1.length≤B) (how by0:Int) (hh:cI how) (hb:cI by0):∃ M':List Si,Pure Tryz.prog G0 12 [mV M,.int .i64 how,.int .i64 by0] (mV M')∧M'.length≤M.length+1∧∀ s∈M',s.1.length≤B+3:=by
 obtain ⟨kk,hkk,ka⟩:=fO by0 hb (M.length+1) (by omega)
 obtain ⟨hw,hw5,kh⟩:=fO how hh 5 (by omega)
 obtain ⟨x1,_,kx1⟩:=fO by0 hb 3 (by omega)
 obtain ⟨x2,_,kx2⟩:=fO _ (iD (by0.tdiv 3)) 3 (by omega)
 obtain ⟨x3,_,kx3⟩:=fO _ (iD (by0.tdiv 9)) 8 (by omega)
 obtain ⟨x4,hx4,kx4⟩:=fO _ (iD (by0.tdiv 3)) 10 (by omega)
 have hb:=P8 M kk hw x1 x2 x3 x4 B hp
 have hp':∀ s∈M,s.1.length≤100000000000:=fun s hs=>Nat.le_trans (hp s hs) hB
 refine ⟨spF M kk hw x1 x2 x3 x4,?_,hb.1,hb.2⟩
 by_cases hc:∃ s,M[kk]? =some s∧hw=2∧s.1≠[]
 ·obtain ⟨⟨pk,ok⟩,h1,rfl,h3⟩:=hc
  exact MN M hM hp' how by0 kk x1 x2 x3 x4 pk ok h1 h3 ka kh kx2
 ·exact MO M hM hp' how by0 kk hw x1 x2 x3 x4 (by omega) hw5 hx4 ka kh kx1 kx2 kx3 kx4 fun s h1 h2=>Classical.byContradiction fun h3=>hc ⟨s,h1,h2,h3⟩
end Go.Proofs.YtggflhbigolakaaGreatDoor
