import Derived.Test.YtggflhbigolakaaGreatDoorSC
import Derived.Test.YtggflhbigolakaaGreatDoorSF
import Derived.Test.YtggflhbigolakaaGreatDoorUA
import Derived.Test.YtggflhbigolakaaGreatDoorUF
set_option linter.unusedVariables false
set_option linter.unusedSimpArgs false
namespace Go.Proofs.YtggflhbigolakaaGreatDoor
open Go.AM
attribute [local irreducible] AWp aY bC bI bU bW aN aS bL
set_option maxRecDepth 100000
def hol:T→List Int→List AV
 |t,[]=>T.enc t
 |t,i::p=>match p with
  | []=>[.int .i64 t.kind,.int .i64 t.num,.int .i64 t.low,rv 0 (t.kids.length - 1) 4 (T.encs t.kids)]
  |_::_=>[.int .i64 t.kind,.int .i64 t.num,.int .i64 t.low,.sl false (match t.kids[i.toNat]? with
   |some e=>(T.encs t.kids).set i.toNat (hol e p)
   |none=>T.encs t.kids)]
def par:T→List Int→List T
 |_,[]=>[]
 |t,i::p=>match p with
  | []=>t.kids
  |_::_=>match t.kids[i.toNat]? with
   |some e=>par e p
   |none=>[]
theorem sI (k n m:Int) (es:List T) (i:Int):hol (.mk k n m es) [i]=[.int .i64 k,.int .i64 n,.int .i64 m,rv 0 (es.length - 1) 4 (T.encs es)]:=rfl
theorem uX {k n m:Int} {es:List T} {j:Nat} {e:T} (i2:Int) (p:List Int) (h:es[j]? =some e):hol (.mk k n m es) ((j:Int)::i2::p)=[.int .i64 k,.int .i64 n,.int .i64 m,.sl false ((T.encs es).set j (hol e (i2::p)))]:=by
 rw [hol]
 simp only [T.kids,Int.toNat_natCast,h,T.kind,T.num,T.low]
theorem pA {k n m:Int} {es:List T} {j:Nat} {e:T} (i2:Int) (p:List Int) (h:es[j]? =some e):par (.mk k n m es) ((j:Int)::i2::p)=par e (i2::p):=by
 rw [par]
 simp only [T.kids,Int.toNat_natCast,h]
theorem AX (t:T) (p:List Int):∃ a b c w,hol t p=[.int .i64 a,.int .i64 b,.int .i64 c,w]:=by
 obtain ⟨k,n,m,es⟩:=t
 cases p with
 |nil=>exact ⟨_,_,_,_,rfl⟩
 |cons i p=>
  cases p with
  |nil=>exact ⟨_,_,_,_,rfl⟩
  |cons i2 p=>exact ⟨_,_,_,_,rfl⟩
theorem sH {q:Nat→Bool} {L:List (List AV)} {x:List AV} (h:inE q L=true) (hx:inL q x=true) (j:Nat):inE q (L.set j x)=true:=by
 induction L generalizing j with
 |nil=>exact h
 |cons a L ih=>
  simp only [inE,Bool.and_eq_true] at h
  cases j with
  |zero=>simp only [List.set_cons_zero,inE,hx,h.2,Bool.and_self]
  |succ j=>simp only [List.set_cons_succ,inE,h.1,ih h.2 j,Bool.and_self]
theorem DO {q:Nat→Bool} {L:List (List AV)} (h:inE q L=true) (i:Nat):inE q (L.take i)=true:=by
 induction L generalizing i with
 |nil=>simpa using h
 |cons a L ih=>
  simp only [inE,Bool.and_eq_true] at h
  cases i with
  |zero=>rfl
  |succ i=>simp only [List.take_succ_cons,inE,h.1,ih h.2 i,Bool.and_self]
theorem AW {q:Nat→Bool} (h0:q 0=true):∀ (p:List Int) (t:T),inL q (hol t p)=true
 | [],t=>aD (T.enc_tree t)
 | [i],.mk k n m es=>by
  rw [sI]
  simp only [inL,inR,cH h0,Bool.and_self]
 |i::i2::p,.mk k n m es=>by
  rw [hol]
  simp only [inL,inR,Bool.and_true,Bool.true_and,T.kids]
  split
  ·exact sH (aA (T.encs_tree es)) (AW h0 (i2::p) _) _
  ·exact aA (T.encs_tree es)
theorem NK (t:T) (p:List Int):(hol t p).length=4:=by
 obtain ⟨a,b,c,w,h⟩:=AX t p
 rw [h];rfl
theorem tJ {es:List T} {j:Nat} {x:List AV} (hx:x.length=4):∀ e∈(T.encs es).set j x,e.length=4:=fun e he=>by
 rcases List.mem_or_eq_of_mem_set he with he|rfl
 ·rw [T.encs_map] at he
  obtain ⟨y,_,rfl⟩:=List.mem_map.1 he
  exact T.enc_len y
 ·exact hx
set_option maxHeartbeats 8000000 in
theorem NW:∀ (p:List Int) (i:Int) (t t':T),T.size t≤2000000000000→T.sub t (i::p)=some t'→∀ rows:Nat→ARow,rows 0=.none→dH Tryz.prog G0 58 [.agg (T.enc t)] rows [0] ⟨.agg (hol t (i::p)),[(0,rvR ((par t (i::p)).length - 1) (T.encs (par t (i::p))))]⟩:=by
 intro p
 induction p with
 |nil=>
  intro i t t' hsz hsub rows h0
  obtain ⟨j,k,n,m,es,e0,rfl,rfl,he0,_⟩:=T.sub_some hsub
  have hls:=T.len_sizes es
  simp only [T.size] at hsz
  rw [sI]
  simp only [par,T.kids]
  have htr:=T.enc_tree (.mk k n m es)
  have ih2:∀ e∈es,Pure Tryz.prog G0 58 [.agg (T.enc e)] (.agg (T.enc e)):=fun e he=>jZ _ e (Nat.le_refl _) (by have:=T.size_mem he;omega)
  simp only [T.enc] at htr ⊢
  have hgt:=fun (i:Nat) (e:T)=>T.encs_get (es:=es) (i:=i) (e:=e)
  have hln:=T.encs_len es
  have hte:=T.encs_tree es
  have hE:=T.encs_map es
  have hpt:∀ l:List T,inE aC (l.map T.enc)=true:=fun l=>by rw [← T.encs_map];exact T.encs_tree l
  have hps:∀ l:List T,∀ e∈l.map T.enc,e.length=4:=fun l e he=>by
   obtain ⟨y,_,rfl⟩:=List.mem_map.1 he
   exact T.enc_len y
  have hEr:=hE
  generalize T.encs es=E at hgt hln hte htr hE ⊢
  refine cD [.none] hG0 Tryz.func58 rfl (by kernel_rfl) (by simp [Tryz.ntmps58]) ?_ ?_ ?_ ?_ ?_ ?_ ?_
  ·intro r hr
   simp only [List.mem_cons,List.not_mem_nil,or_false] at hr
   rcases hr with rfl
   ·exact h0.symm
  ·intro r hr
   match r,hr with
   |0,hr=>exact absurd (by simp) hr
   |r+1,_=>simp
  ·simp only [inL,inR,List.length_cons,List.length_nil,Nat.reduceAdd,Nat.reduceLT,decide_true,Bool.true_and,Bool.and_true,Bool.and_eq_true];exact aA (by simpa only [inL,inR,Bool.true_and,Bool.and_true] using htr)
  ·intro r hr
   simp only [List.mem_cons,List.not_mem_nil,or_false] at hr
   rcases hr with rfl
   ·rw [h0];exact rfl
  ·intro r hr h
   simp only [List.mem_cons,List.not_mem_nil,or_false] at hr
   simp only [List.length_cons,List.length_nil] at h
   omega
  ·simp
  simp only [Tryz.ntmps58,aH,Nat.reduceAdd,List.length_cons,List.length_nil]
  repeat' (first|(refine u'S ?_;simp only [wS,simprocAttr])|refine u'Q fun _ _=>?_|refine aV ?_|refine aR (fun hg=>?_) fun hg=>?_|fail)
  refine aJ (α:={i:Nat // i≤es.length}) (fun i=>[(1,.ptr 1 0 0),(2,.ptr 2 0 0),(9,.sl false E),(10,.int .i64 (E.length:Nat)),(11,.int .i64 (i.1:Nat))]) (fun i=>[rvR (i.1 - 1) ((es.take i.1).map T.enc),.cells 0 [.int .i64 k,.int .i64 n,.int .i64 m,rv 0 (i.1 - 1) 4 ((es.take i.1).map T.enc)],.cells 0 [.int .i64 0,.int .i64 0,.int .i64 0,.sl true []]]) (fun i=>es.length - i.1) ⟨0,Nat.zero_le _⟩ (bN [] (kp [0,1,2]) hG0 (fun r hr=>(by simp only [kp];match r,hr with|0,_=>rfl)) ?_ ?_ ?_) ?_
  ·simp only [wS,simprocAttr,cS,Frz,and_true,true_or]
  ·simp only [List.all_cons,List.all_nil,Bool.and_true,Bool.and_eq_true,inR,aA hte];exact ⟨rfl,rfl⟩
  ·simp only [wS,simprocAttr,List.take_zero,List.map_nil,dS,dM]
   simp only [ToH,and_true]
   exact ⟨.inr ⟨rfl,rfl,.inr ⟨.inr rfl,.inl rfl⟩⟩,.inr ⟨rfl,rfl,.inr ⟨.inl (by simp),.inr ⟨0,_,_,rfl,rfl,.inl rfl,.inl rfl,.inl rfl,.inr .toRsv,trivial⟩⟩⟩,kr rfl rfl (by simp)⟩
  ·rintro ⟨i,hi⟩ K3 hK3
   try simp only at hi
   have hal:((es.take i).map T.enc).length=i:=by rw [List.length_map,List.length_take];omega
   by_cases hlt:i<es.length
   ·have c1:decide (((i:Nat):Int)<((E.length:Nat):Int))=true:=by simp;omega
    have hltE:i<E.length:=by omega
    obtain ⟨e,he⟩:∃ e,es[i]? =some e:=⟨_,List.getElem?_eq_getElem hlt⟩
    have hg:=hgt i e he
    have hce:=ih2 e (List.mem_of_getElem? he)
    have htk:=eY (f:=T.enc) he
    have e3:=aL (k:=i) hlt (by omega)
    obtain ⟨xa,xb,xc,xd,hxe⟩:=aI e
    rw [hxe] at hg hce htk
    have hps':=hps (es.take i)
    have hvv:i=if ((es.take i).map T.enc)=[] then 0 else i - 1+1:=by
     by_cases h0:((es.take i).map T.enc)=[]
     ·rw [if_pos h0];rw [h0] at hal;simpa using hal.symm
     ·rw [if_neg h0]
      have:i≠0:=fun hz=>h0 (by rw [hz];rfl)
      omega
    repeat' (first|(refine u'S ?_;simp only [wS,simprocAttr,hg,hltE,c1,e3,↓aM,↓aF])|refine u'Q fun _ _=>?_|refine aO ?_|refine aP (fun hg=>?_) fun hg=>?_|refine u'G ?_|refine b8 (v':=i) (es:=[[.int .i64 xa,.int .i64 xb,.int .i64 xc,.sl false xd]]) (by':=48) (by kernel_rfl) u'p hvv hps' (by simp [cJ]) (by simp) (by rw [hal];simp only [List.length_singleton];omega) (u'T ?_))
    refine hK3.go ⟨i+1,hlt⟩ (Weak.ref ⟨?_,.inr ⟨by first|exact Nat.zero_le _|exact Nat.le_refl _|simp,?_,fun g cs hg=>aD (hG0 g cs hg),?_,?_⟩⟩) (by simp only;omega)
    ·simp only [wS,simprocAttr,↓aM,↓aF];try exact rfl
    ·simp only [wS,simprocAttr,Nat.add_sub_cancel,htk];try exact rfl
    ·intro z hz
     simp only [List.mem_cons,List.not_mem_nil,or_false] at hz
     rcases hz with rfl|rfl|rfl|rfl|rfl<;>first|rfl|(simp only [inR];exact aA hte)
    ·simp only [List.all_cons,List.all_nil,Bool.and_true,Bool.and_eq_true];try exact ⟨bQ (aA (hpt _)),by simp only [aG,inL,inR,Bool.true_and,Bool.and_true];exact cH rfl,rfl⟩
   ·have c1:decide (((i:Nat):Int)<((E.length:Nat):Int))=false:=by simp;omega
    obtain rfl:i=es.length:=by omega
    rw [List.take_length] at hal
    repeat' (first|(refine u'S ?_;simp only [wS,simprocAttr,List.take_length,c1])|refine u'Q fun _ _=>?_|refine aV ?_|refine aR (fun hg=>?_) fun hg=>?_|fail)
    refine bV (v:=.agg [.int .i64 k,.int .i64 n,.int .i64 m,rv 0 (es.length - 1) 4 (es.map T.enc)]) rfl (by simp only [wS,simprocAttr,↓aM,↓aF,List.take_length];try exact rfl) ⟨.inl (by rw [hE]),?_,fun r hr=>?_⟩
    ·simp only [inR,inL,Bool.and_true,Bool.true_and]
     exact cH rfl
    ·obtain rfl:r=0:=by simpa using hr
     simp only [wS,simprocAttr,List.take_length,hE]
     first|exact ⟨rfl,bQ (aA (hpt es))⟩|exact bQ (aA (hpt es))|exact ⟨by rw [hE],by rw [hE];exact bQ (aA (hpt es))⟩
 |cons i2 p ih=>
  intro i t t' hsz hsub rows h0
  obtain ⟨j,k,n,m,es,e0,rfl,rfl,he0,hs0⟩:=T.sub_some hsub
  have hls:=T.len_sizes es
  have hjl:=(List.getElem?_eq_some_iff.1 he0).1
  simp only [T.size] at hsz
  have hown:=fun rows h=>ih i2 e0 t' (by have:=T.size_mem (List.mem_of_getElem? he0);omega) hs0 rows h
  rw [uX i2 p he0,pA i2 p he0]
  have hRin:∀ q:Nat→Bool,aG q (rvR ((par e0 (i2::p)).length - 1) (T.encs (par e0 (i2::p))))=true:=fun q=>bQ (aA (T.encs_tree _))
  generalize rvR ((par e0 (i2::p)).length - 1) (T.encs (par e0 (i2::p)))=R0 at hown hRin ⊢
  have hgin:∀ q:Nat→Bool,q 0=true→inL q (hol e0 (i2::p))=true:=fun q h=>AW h _ _
  have hgl:=NK e0 (i2::p)
  obtain ⟨ga,gb,gc,gw,hge⟩:=AX e0 (i2::p)
  rw [hge] at hown hgin hgl ⊢
  have htr:=T.enc_tree (.mk k n m es)
  have ih2:∀ e∈es,Pure Tryz.prog G0 58 [.agg (T.enc e)] (.agg (T.enc e)):=fun e he=>jZ _ e (Nat.le_refl _) (by have:=T.size_mem he;omega)
  simp only [T.enc] at htr ⊢
  have hgt:=fun (i:Nat) (e:T)=>T.encs_get (es:=es) (i:=i) (e:=e)
  have hln:=T.encs_len es
  have hte:=T.encs_tree es
  have hL4:=tJ (es:=es) (j:=j) hgl
  have hLin:∀ q:Nat→Bool,q 0=true→inE q ((T.encs es).set j [.int .i64 ga,.int .i64 gb,.int .i64 gc,gw])=true:=fun q h=>sH (aA hte) (hgin q h) j
  have hLl:((T.encs es).set j [.int .i64 ga,.int .i64 gb,.int .i64 gc,gw]).length=es.length:=by rw [List.length_set,hln]
  have hLj:((T.encs es).set j [.int .i64 ga,.int .i64 gb,.int .i64 gc,gw])[j]? =some [.int .i64 ga,.int .i64 gb,.int .i64 gc,gw]:=List.getElem?_set_self (by omega)
  have hLo:∀ (i:Nat) (e:T),i≠j→es[i]? =some e→((T.encs es).set j [.int .i64 ga,.int .i64 gb,.int .i64 gc,gw])[i]? =some (T.enc e):=fun i e hij he=>by rw [List.getElem?_set_ne (fun h=>hij h.symm)];exact hgt i e he
  generalize (T.encs es).set j [.int .i64 ga,.int .i64 gb,.int .i64 gc,gw]=L at hL4 hLin hLl hLj hLo ⊢
  generalize T.encs es=E at hgt hln hte htr ⊢
  obtain ⟨RJ,hR1,hR2⟩:∃ f:Nat→ARow,(∀ i,i≤j→f i=.none)∧∀ i,j<i→f i=R0:=⟨fun i=>if i≤j then .none else R0,fun i h=>if_pos h,fun i h=>if_neg (by omega)⟩
  have hRJ:∀ (q:Nat→Bool) i,aG q (RJ i)=true:=fun q i=>by
   by_cases h:i≤j
   ·rw [hR1 i h];rfl
   ·rw [hR2 i (by omega)];exact hRin q
  have hRJ0:=hR1 0 (Nat.zero_le _)
  refine cD [.none] hG0 Tryz.func58 rfl (by kernel_rfl) (by simp [Tryz.ntmps58]) ?_ ?_ ?_ ?_ ?_ ?_ ?_
  ·intro r hr
   simp only [List.mem_cons,List.not_mem_nil,or_false] at hr
   rcases hr with rfl
   ·exact h0.symm
  ·intro r hr
   match r,hr with
   |0,hr=>exact absurd (by simp) hr
   |r+1,_=>simp
  ·simp only [inL,inR,List.length_cons,List.length_nil,Nat.reduceAdd,Nat.reduceLT,decide_true,Bool.true_and,Bool.and_true,Bool.and_eq_true];exact aA (by simpa only [inL,inR,Bool.true_and,Bool.and_true] using htr)
  ·intro r hr
   simp only [List.mem_cons,List.not_mem_nil,or_false] at hr
   rcases hr with rfl
   ·rw [h0];exact rfl
  ·intro r hr h
   simp only [List.mem_cons,List.not_mem_nil,or_false] at hr
   simp only [List.length_cons,List.length_nil] at h
   omega
  ·simp
  simp only [Tryz.ntmps58,aH,Nat.reduceAdd,List.length_cons,List.length_nil]
  repeat' (first|(refine u'S ?_;simp only [wS,simprocAttr])|refine u'Q fun _ _=>?_|refine aV ?_|refine aR (fun hg=>?_) fun hg=>?_|fail)
  refine aJ (α:={i:Nat // i≤es.length}) (fun i=>[(1,.ptr 1 0 0),(2,.ptr 2 0 0),(9,.sl false E),(10,.int .i64 (E.length:Nat)),(11,.int .i64 (i.1:Nat))]) (fun i=>[RJ (i.1),.cells 0 [.int .i64 k,.int .i64 n,.int .i64 m,rv 3 (i.1 - 1) 4 (L.take i.1)],.cells 0 [.int .i64 0,.int .i64 0,.int .i64 0,.sl true []],rvR (i.1 - 1) (L.take i.1)]) (fun i=>es.length - i.1) ⟨0,Nat.zero_le _⟩ (bN [] (kp [0,1,2,3]) hG0 (fun r hr=>(by match r,hr with|0,_=>rfl)) ?_ ?_ ?_) ?_
  ·simp only [wS,simprocAttr,cS,Frz,and_true,true_or]
  ·simp only [List.all_cons,List.all_nil,Bool.and_true,Bool.and_eq_true,inR,aA hte];exact ⟨rfl,rfl⟩
  ·simp only [wS,simprocAttr,List.take_zero,dS,dM,hRJ0]
   simp only [ToH,and_true]
   exact ⟨.inr ⟨rfl,rfl,.inr ⟨.inr rfl,.inl rfl⟩⟩,.inr ⟨rfl,rfl,.inr ⟨.inl (by simp),.inr ⟨0,_,_,rfl,rfl,.inl rfl,.inl rfl,.inl rfl,.inr .toRsv,trivial⟩⟩⟩,kr rfl rfl (by simp)⟩
  ·rintro ⟨i,hi⟩ K3 hK3
   try simp only at hi
   have hal:(L.take i).length=i:=by rw [List.length_take];omega
   by_cases hlt:i<es.length
   ·have c1:decide (((i:Nat):Int)<((E.length:Nat):Int))=true:=by simp;omega
    have hltE:i<E.length:=by omega
    obtain ⟨e,he⟩:∃ e,es[i]? =some e:=⟨_,List.getElem?_eq_getElem hlt⟩
    have hg:=hgt i e he
    have e3:=aL (k:=i) hlt (by omega)
    have hps':∀ e∈L.take i,e.length=4:=fun e he=>hL4 e (List.mem_of_mem_take he)
    have hvv:i=if L.take i=[] then 0 else i - 1+1:=by
     by_cases h0:L.take i=[]
     ·rw [if_pos h0];rw [h0] at hal;simpa using hal.symm
     ·rw [if_neg h0]
      have:i≠0:=fun hz=>h0 (by rw [hz];rfl)
      omega
    by_cases hij:i=j
    ·subst hij
     obtain rfl:e0=e:=by rw [he0] at he;cases he;rfl
     have hRi:=hR1 i (Nat.le_refl _)
     have hRn:=hR2 (i+1) (by omega)
     have htk:L.take (i+1)=L.take i++[[.int .i64 ga,.int .i64 gb,.int .i64 gc,gw]]:=by rw [List.take_add_one,hLj];rfl
     obtain ⟨xa,xb,xc,xd,hxe⟩:=aI e0
     rw [hxe] at hg hown
     repeat' (first|(refine u'S ?_;simp only [wS,simprocAttr,hg,hltE,c1,e3,↓aM,↓aF])|refine u'Q fun _ _=>?_|refine aO ?_|refine aP (fun hg=>?_) fun hg=>?_|refine dW (hown _ (by simp only [wS,simprocAttr];exact hRi)) (u'T ?_)|refine b8 (v':=i) (es:=[[.int .i64 ga,.int .i64 gb,.int .i64 gc,gw]]) (by':=48) (by kernel_rfl) u'p hvv hps' (by simp [cJ]) (by simp) (by rw [hal];simp only [List.length_singleton];omega) (u'T ?_))
     refine hK3.go ⟨i+1,hlt⟩ (Weak.ref ⟨?_,.inr ⟨by first|exact Nat.zero_le _|exact Nat.le_refl _|simp,?_,fun g cs hg=>aD (hG0 g cs hg),?_,?_⟩⟩) (by simp only;omega)
     ·simp only [wS,simprocAttr,↓aM,↓aF];try exact rfl
     ·simp only [wS,simprocAttr,Nat.add_sub_cancel,htk,hRn];try exact rfl
     ·intro z hz
      simp only [List.mem_cons,List.not_mem_nil,or_false] at hz
      rcases hz with rfl|rfl|rfl|rfl|rfl<;>first|rfl|(simp only [inR];exact aA hte)
     ·simp only [List.all_cons,List.all_nil,Bool.and_true,Bool.and_eq_true];try exact ⟨hRJ _ _,by simp only [aG,inL,inR,Bool.true_and,Bool.and_true];exact cH rfl,rfl,bQ (DO (hLin _ rfl) _)⟩
    ·have hRn:RJ (i+1)=RJ i:=by
      by_cases h:i<j
      ·rw [hR1 _ (by omega),hR1 _ (by omega)]
      ·rw [hR2 _ (by omega),hR2 _ (by omega)]
     have hLi:=hLo i e hij he
     have hce:=ih2 e (List.mem_of_getElem? he)
     obtain ⟨xa,xb,xc,xd,hxe⟩:=aI e
     rw [hxe] at hg hce hLi
     have htk:L.take (i+1)=L.take i++[[.int .i64 xa,.int .i64 xb,.int .i64 xc,.sl false xd]]:=by rw [List.take_add_one,hLi];rfl
     repeat' (first|(refine u'S ?_;simp only [wS,simprocAttr,hg,hltE,c1,e3,↓aM,↓aF])|refine u'Q fun _ _=>?_|refine aO ?_|refine aP (fun hg=>?_) fun hg=>?_|refine u'G ?_|refine b8 (v':=i) (es:=[[.int .i64 xa,.int .i64 xb,.int .i64 xc,.sl false xd]]) (by':=48) (by kernel_rfl) u'p hvv hps' (by simp [cJ]) (by simp) (by rw [hal];simp only [List.length_singleton];omega) (u'T ?_))
     refine hK3.go ⟨i+1,hlt⟩ (Weak.ref ⟨?_,.inr ⟨by first|exact Nat.zero_le _|exact Nat.le_refl _|simp,?_,fun g cs hg=>aD (hG0 g cs hg),?_,?_⟩⟩) (by simp only;omega)
     ·simp only [wS,simprocAttr,↓aM,↓aF];try exact rfl
     ·simp only [wS,simprocAttr,Nat.add_sub_cancel,htk,hRn];try exact rfl
     ·intro z hz
      simp only [List.mem_cons,List.not_mem_nil,or_false] at hz
      rcases hz with rfl|rfl|rfl|rfl|rfl<;>first|rfl|(simp only [inR];exact aA hte)
     ·simp only [List.all_cons,List.all_nil,Bool.and_true,Bool.and_eq_true];try exact ⟨hRJ _ _,by simp only [aG,inL,inR,Bool.true_and,Bool.and_true];exact cH rfl,rfl,bQ (DO (hLin _ rfl) _)⟩
   ·have c1:decide (((i:Nat):Int)<((E.length:Nat):Int))=false:=by simp;omega
    obtain rfl:i=es.length:=by omega
    have hta:L.take es.length=L:=List.take_of_length_le (by omega)
    have hRn:=hR2 es.length hjl
    rw [hta,hRn]
    repeat' (first|(refine u'S ?_;simp only [wS,simprocAttr,c1])|refine u'Q fun _ _=>?_|refine lM ?_|refine aR (fun hg=>?_) fun hg=>?_|fail)
    refine Cont.go (by assumption) ?_
    repeat' (first|(refine u'S ?_;simp only [wS,simprocAttr,c1])|refine u'Q fun _ _=>?_|refine lM ?_|refine aR (fun hg=>?_) fun hg=>?_|fail)
    refine Cont.go (by assumption) (eH (bN [] (kp [0,1,2,3]) (l:=[(1,.ptr 1 0 0),(2,.ptr 2 0 0)]) (h:=[R0,.cells 0 [.int .i64 k,.int .i64 n,.int .i64 m,rv 3 (es.length - 1) 4 L],.cells 0 [.int .i64 0,.int .i64 0,.int .i64 0,.sl true []],rvR (es.length - 1) L]) hG0 (fun r hr=>(by match r,hr with|0,_=>rfl)) ?_ ?_ ?_) (eH (JW (s':=⟨mkF [(1,.ptr 1 0 0),(2,.ptr 2 0 0)],[R0,.cells 0 [.int .i64 k,.int .i64 n,.int .i64 m,.sl false L],.cells 0 [.int .i64 0,.int .i64 0,.int .i64 0,.sl true []],.dead]⟩) (r:=3) (b:=1) (L:=L) (pre:=[.int .i64 k,.int .i64 n,.int .i64 m]) (post:=[]) (m:=es.length) (sz:=4) (ver:=es.length - 1) (vb:=0) (bb:=false) ?_ ?_ hLl hL4 (by decide) rfl ?_) ?_))
    ·simp only [wS,simprocAttr,cS,Frz,and_true,true_or]
    ·rfl
    ·simp only [wS,simprocAttr]
     simp only [ToH,and_true]
     exact ⟨kr rfl (hRin _) (by simp),kr rfl (by simp only [aG,inL,inR,Bool.true_and,Bool.and_true];exact cH rfl) (by simp),kr rfl rfl (by simp),kr rfl (bQ (hLin _ rfl)) (by simp)⟩
    ·show ARow.cells 0 [.int .i64 k,.int .i64 n,.int .i64 m,rv 3 (es.length - 1) 4 L]=_
     rw [rv,if_neg (fun e=>by rw [e] at hLl;simp at hLl;omega),hLl];rfl
    ·show rvR (es.length - 1) L=_
     rw [rvR,if_neg (fun e=>by rw [e] at hLl;simp at hLl;omega)]
    ·intro q
     match q with
     |0=>rfl
     |1=>rfl
     |2=>rfl
     |3=>rfl
     |q+4=>simp only [Nat.reduceEqDiff,if_false];rfl
    repeat' (first|(refine u'S ?_;simp only [wS,simprocAttr])|refine u'Q fun _ _=>?_|refine aV ?_|refine aR (fun hg=>?_) fun hg=>?_|fail)
    refine bV (v:=.agg [.int .i64 k,.int .i64 n,.int .i64 m,.sl false L]) rfl u'p ⟨.inl rfl,?_,fun r hr=>?_⟩
    ·simp only [inR,inL,Bool.and_true,Bool.true_and]
     exact hLin _ rfl
    ·obtain rfl:r=0:=by simpa using hr
     simp only [wS,simprocAttr]
     first|exact ⟨rfl,hRin _⟩|exact hRin _
def lst:List Int→Nat
 | []=>0
 |i::p=>match p with
  | []=>i.toNat
  |_::_=>lst p
theorem yA {rows:Nat→ARow} {fp:List Nat} {a b:List AV} (h:LendL rows fp a b):∀ {A:List (List AV)} (j:Nat),inE aC A=true→LendE rows fp (A.set j a) (A.set j b)
 | [],_,_=>.nil
 |e::A,0,hA=>by
  simp only [inE,Bool.and_eq_true] at hA
  have:∀ {A:List (List AV)},inE aC A=true→LendE rows fp A A:=fun {A}=>by
   induction A with
   |nil=>exact fun _=>.nil
   |cons x A ih=>
    intro hx
    simp only [inE,Bool.and_eq_true] at hx
    exact .cons (iM hx.1) (ih hx.2)
  exact .cons h (this hA.2)
 |e::A,j+1,hA=>by
  simp only [inE,Bool.and_eq_true] at hA
  exact .cons (iM hA.1) (yA h j hA.2)
theorem yQ {rows:Nat→ARow} {fp:List Nat}:∀ {a b:List AV},LendL rows fp a b→j8 rows fp a b
 |_,_,.nil=>trivial
 |_,_,.cons h hs=>⟨.inr h,yQ hs⟩
theorem E7 (es:List T) (j:Nat) (u:T):T.encs (es.set j u)=(T.encs es).set j (T.enc u):=by rw [T.encs_map,T.encs_map,List.map_set]
theorem JP {r v sz n:Nat} {L:List (List AV)} (h:L.length=n) (hn:0<n):rv r v sz L=.osl r v 0 n sz false:=by
 rw [rv,if_neg (fun e=>by rw [e] at h;simp at h;omega),h]
theorem DQ {rows:Nat→ARow} {x:T}:∀ (p:List Int) (i:Int) (t t':T),T.sub t (i::p)=some t'→rows 0=.cells ((par t (i::p)).length - 1) ((T.encs (par t (i::p))).set (lst (i::p)) (T.enc x)).flatten→LendL rows [0] (hol t (i::p)) (T.enc (T.set t (i::p) x))
 | [],i,t,t',hsub,h0=>by
  obtain ⟨j,k,n,m,es,e,rfl,rfl,he,_⟩:=T.sub_some hsub
  have hlt:=(List.getElem?_eq_some_iff.1 he).1
  simp only [par,T.kids,lst,Int.toNat_natCast] at h0
  rw [sI,T.set_cons [] x he,T.set,T.enc,E7,JP (T.encs_len es) (by omega)]
  refine .cons (.same rfl) (.cons (.same rfl) (.cons (.same rfl) (.cons (.osl (cs:=((T.encs es).set j (T.enc x)).flatten) (by simp) (by simp [aT,h0]) (by rw [List.length_set,T.encs_len]) (tJ (T.enc_len x)) ?_ (sH (T.encs_tree es) (T.enc_tree x) j)) .nil)))
  rw [List.drop_zero,List.take_of_length_le]
  rw [cG (tJ (T.enc_len x)),List.length_set,T.encs_len];exact Nat.le_refl _
 |i2::p,i,t,t',hsub,h0=>by
  obtain ⟨j,k,n,m,es,e,rfl,rfl,he,hs⟩:=T.sub_some hsub
  rw [pA i2 p he] at h0
  rw [uX i2 p he,T.set_cons (i2::p) x he,T.enc,E7]
  exact .cons (.same rfl) (.cons (.same rfl) (.cons (.same rfl) (.cons (.sle (yA (DQ p i2 e t' hs h0) j (T.encs_tree es))) .nil)))
theorem KA:∀ (p:List Int) (i:Int) (t t':T),T.sub t (i::p)=some t'→lst (i::p)<(par t (i::p)).length∧(par t (i::p)).length≤T.size t
 | [],i,t,t',hsub=>by
  obtain ⟨j,k,n,m,es,e,rfl,rfl,he,_⟩:=T.sub_some hsub
  have hlt:=(List.getElem?_eq_some_iff.1 he).1
  have:=T.len_sizes es
  simp only [par,T.kids,lst,Int.toNat_natCast,T.size]
  omega
 |i2::p,i,t,t',hsub=>by
  obtain ⟨j,k,n,m,es,e,rfl,rfl,he,hs⟩:=T.sub_some hsub
  have h:=KA p i2 e t' hs
  have:=T.size_mem (List.mem_of_getElem? he)
  rw [pA i2 p he]
  simp only [T.size]
  exact ⟨h.1,by omega⟩
theorem I1 (t x:T) (ht:T.size t≤2000000000000) (hx:T.size x≤2000000000000):Pure Tryz.prog G0 26 [.agg (T.enc t),.sl false (aE []),.agg (T.enc x)] (.tup [.agg (T.enc x),.int .i64 0]):=by
 have ka:=v7 t [] (by simp) ht
 have kc:=jZ _ t (Nat.le_refl _) ht
 have kx:=jZ _ x (Nat.le_refl _) hx
 have htr:=T.enc_tree t
 have hxr:=T.enc_tree x
 have hxw:=T.wk_enc x
 simp only [T.sub,fJ,aE,List.map_nil] at ka ⊢
 obtain ⟨ta,tb,tc,td,hte⟩:=aI t
 obtain ⟨xa,xb,xc,xd,hxe⟩:=aI x
 rw [hte] at ka kc htr ⊢
 rw [hxe] at kx hxr hxw ⊢
 refine aU hG0 Tryz.func26 rfl (by kernel_rfl) (by simp [Tryz.ntmps26]) (by simp only [inL,inR,inE,Bool.true_and,Bool.and_true,Bool.and_eq_true] at htr hxr ⊢;exact ⟨htr,hxr⟩) (by simp only [inR,inL,Bool.true_and,Bool.and_true] at hxr ⊢;exact hxr) ?_
 simp only [Tryz.ntmps26,aH,Nat.reduceAdd]
 repeat' (first|(refine u'S ?_;simp only [wS,simprocAttr,List.length_nil,Bool.not_true])|refine u'Q fun _ _=>?_|refine aO ?_|refine aP (fun hg=>?_) fun hg=>?_|(refine bH hG0 (ka) ?_;simp only [wS,simprocAttr,Bool.not_true])|(refine bH hG0 (kc) ?_;simp only [wS,simprocAttr,Bool.not_true]))
 refine aJ (α:=Unit) (fun _=>[(5,.ptr 1 0 0),(6,.ptr 2 0 0),(10,.ptr 4 0 0),(11,.ptr 4 0 0),(26,.int .i64 0),(27,.int .i64 0)]) (fun _=>[.cells 0 [.int .i64 ta,.int .i64 tb,.int .i64 tc,.sl false td],.cells 0 [.int .i64 xa,.int .i64 xb,.int .i64 xc,.sl false xd],.cells 0 [.int .i64 0,.int .i64 0,.int .i64 0,.sl true []],.cells 0 [.int .i64 ta,.int .i64 tb,.int .i64 tc,.sl false td],.cells 0 [.int .i64 ta,.int .i64 tb,.int .i64 tc,.sl false td]]) (fun _=>0) () (Weak.ref ⟨?_,.inl ?_⟩) ?_
 ·exact u'p
 ·exact u'p
 ·rintro _ K hK
  repeat' (first|(refine u'S ?_;simp only [wS,simprocAttr])|refine u'Q fun _ _=>?_|refine aO ?_|refine aP (fun hg=>?_) fun hg=>?_|refine u'G ?_|fail)
  refine aX (v:=.agg [.int .i64 xa,.int .i64 xb,.int .i64 xc,.sl false xd]) rfl ?_ ?_
  ·simp only [wS,simprocAttr]
  ·simp only [wS,simprocAttr]
   rw [AM.wk,wkL,AM.wk,hxw,wkL,AM.wk,wkL]
set_option maxHeartbeats 8000000 in
theorem J6 (t x t':T) (p:List Int) (hp:p.length≤2000000000000) (ht:T.size t≤2000000000000) (hx:T.size x≤2000000000000) (hsub:T.sub t p=some t'):Pure Tryz.prog G0 26 [.agg (T.enc t),.sl false (aE p),.agg (T.enc x)] (.tup [.agg (T.enc (T.set t p x)),.int .i64 0]):=by
 by_cases hpe:p=[]
 ·subst hpe
  rw [T.set]
  exact I1 t x ht hx
 obtain ⟨i0,p0,hp0⟩:∃ i q,p=i::q:=by
  cases p with
  |nil=>exact absurd rfl hpe
  |cons i q=>exact ⟨i,q,rfl⟩
 have ka:=v7 t p hp ht
 have kc:=fun rows h=>NW p0 i0 t t' ht (by rw [← hp0];exact hsub) rows h
 have kx:=jZ _ x (Nat.le_refl _) hx
 have htr:=T.enc_tree t
 have htr':=T.enc_tree t'
 have hxr:=T.enc_tree x
 have hxl:=T.enc_len x
 have hhx:∀ q:Nat→Bool,q 0=true→inL q (hol t p)=true:=fun q h=>AW h p t
 have hout:=fun rows h=>DQ (rows:=rows) (x:=x) p0 i0 t t' (by rw [← hp0];exact hsub) h
 have hpn:=KA p0 i0 t t' (by rw [← hp0];exact hsub)
 rw [← hp0] at kc hout hpn
 obtain ⟨Rt,hRt⟩:∃ u,u=T.set t p x:=⟨_,rfl⟩
 rw [← hRt] at hout ⊢
 have hrr:=T.enc_tree Rt
 have hrw:=T.wk_enc Rt
 obtain ⟨W,hW⟩:∃ w,w=par t p:=⟨_,rfl⟩
 obtain ⟨jl,hjl⟩:∃ j,j=lst p:=⟨_,rfl⟩
 have hWl:=T.encs_len W
 have hWt:=T.encs_tree W
 have hfs:=fun (i:Nat) (hi:i<(T.encs W).length)=>u4 (L:=T.encs W) (fun e he=>by
  rw [T.encs_map] at he
  obtain ⟨y,_,rfl⟩:=List.mem_map.1 he
  exact T.enc_len y) hi hxl
 have hWf:(T.encs W).flatten.length=W.length*4:=by rw [cG (fun e he=>by
  rw [T.encs_map] at he
  obtain ⟨y,_,rfl⟩:=List.mem_map.1 he
  exact T.enc_len y),hWl]
 rw [← hW,← hjl] at hout hpn
 rw [← hW] at kc
 have hrvR:rvR (W.length - 1) (T.encs W)=.cells (W.length - 1) (T.encs W).flatten:=by
  rw [rvR,if_neg (fun e=>by rw [e] at hWl;simp at hWl;omega)]
 rw [hrvR] at kc
 have hjlW:jl<(T.encs W).length:=by omega
 have hfs':=hfs jl hjlW
 have hpr:inE aC (aE p)=true:=aW p
 have hpl:(aE p).length=p.length:=by simp [aE]
 have hpg:∀ (i:Nat) (x:Int),p[i]? =some x→(aE p)[i]? =some [.int .i64 x]:=fun i x h=>by simp [aE,h]
 rw [hsub,fJ] at ka
 have hst:T.sub t (p.drop 0)=some t':=hsub
 obtain ⟨ha,hb,hc,hw,hhe⟩:=AX t p
 obtain ⟨ta,tb,tc,td,hte⟩:=aI t
 obtain ⟨ta',tb',tc',td',hte'⟩:=aI t'
 obtain ⟨xa,xb,xc,xd,hxe⟩:=aI x
 obtain ⟨ra,rb,rc,rd,hre⟩:=aI Rt
 rw [hte] at ka kc htr ⊢
 rw [hte'] at ka htr'
 rw [hxe] at kx hxr hfs' hout ⊢
 rw [hre] at hrr hrw hout ⊢
 rw [hhe] at kc hhx hout
 generalize hIP:aE p=ip at ka hpr hpl hpg ⊢
 refine aU hG0 Tryz.func26 rfl (by kernel_rfl) (by simp [Tryz.ntmps26]) (by simp only [inL,inR,hpr,Bool.true_and,Bool.and_true,Bool.and_eq_true] at htr hxr ⊢;exact ⟨htr,hxr⟩) (by simp only [inR,inL,Bool.true_and,Bool.and_true] at hrr ⊢;exact hrr) ?_
 simp only [Tryz.ntmps26,aH,Nat.reduceAdd]
 refine eH (bN [] (kp [0]) (l:=[(0,.agg [.int .i64 ta,.int .i64 tb,.int .i64 tc,.sl false td]),(1,.sl false ip),(2,.agg [.int .i64 xa,.int .i64 xb,.int .i64 xc,.sl false xd])]) (h:=[.none]) hG0 (fun r hr=>absurd hr (Nat.not_lt_zero r)) ?_ ?_ ?_) ?_
 ·simp only [wS,simprocAttr,cS,Frz,and_true,true_or]
 ·simp only [inL,inR,Bool.true_and,Bool.and_true] at htr hxr
  simp only [List.all_cons,List.all_nil,Bool.and_true,inL,inR,Bool.true_and,aA htr,aA hxr,aA hpr,Bool.and_self]
 ·simp only [wS,simprocAttr]
  simp only [ToH,and_true]
 repeat' (first|(refine u'S ?_;simp only [wS,simprocAttr,Bool.not_true])|refine u'Q fun _ _=>?_|refine aO ?_|refine aP (fun hg=>?_) fun hg=>?_|refine u'G ?_|refine dW (kc _ u'p) (u'T ?_))
 clear ka kc htr htr' hrvR hfs
 refine aJ (α:={y:Nat × T // y.1≤p.length∧T.sub y.2 (p.drop y.1)=some t'∧(y.1=0→y.2=t)∧(y.1<p.length→par y.2 (p.drop y.1)=W∧lst (p.drop y.1)=jl)}) (fun y=>[(5,.ptr 2 0 0),(6,.ptr 3 0 0),(10,.ptr 5 0 0),(11,if y.1.1=0 then .ptr 5 0 0 else if y.1.1<p.length then .imm (hol y.1.2 (p.drop y.1.1)) else .ptr 0 (W.length - 1) (jl*4)),(25,.sl false ip),(26,.int .i64 (ip.length:Nat)),(27,.int .i64 (y.1.1:Nat))]) (fun _=>[.cells (W.length - 1) (T.encs W).flatten,.none,.cells 0 [.int .i64 xa,.int .i64 xb,.int .i64 xc,.sl false xd],.cells 0 [.int .i64 0,.int .i64 0,.int .i64 0,.sl true []],.none,.cells 0 [.int .i64 ha,.int .i64 hb,.int .i64 hc,hw]]) (fun y=>p.length - y.1.1) ⟨(0,t),Nat.zero_le _,hst,fun _=>rfl,fun _=>⟨hW.symm,hjl.symm⟩⟩ (bN [] (kp [0,2,3,5]) hG0 (fun r hr=>absurd hr (Nat.not_lt_zero r)) ?_ ?_ ?_) ?_
 ·simp only [wS,simprocAttr,cS,Frz,and_true,true_or,if_true]
 ·simp only [List.all_cons,List.all_nil,Bool.and_true,inR,aA hpr,if_true,Bool.true_and];rfl
 ·simp only [wS,simprocAttr]
  simp only [ToH,and_true]
  exact ⟨kr rfl (cF (aA hWt)) (by simp),.inl rfl,kr rfl (aD hxr) (by simp),kr rfl rfl (by simp),.inl rfl,kr rfl (hhx _ rfl) (by simp)⟩
 ·rintro ⟨⟨i,y⟩,hi,hs,hy0,hyW⟩ K hK
  simp only at hi hs hy0 hyW
  by_cases hlt:i<p.length
  ·have c1:decide (((i:Nat):Int)<((ip.length:Nat):Int))=true:=by simp;omega
   have hA:i<ip.length:=by omega
   obtain ⟨q,hq⟩:∃ q,p[i]? =some q:=⟨_,List.getElem?_eq_getElem hlt⟩
   have hg:=hpg i q hq
   have e3:=aL (k:=i) hlt (by omega)
   have hd:p.drop i=q::p.drop (i+1):=by
    obtain ⟨q1,q2⟩:=List.getElem?_eq_some_iff.1 hq
    rw [List.drop_eq_getElem_cons q1,q2]
   obtain ⟨hy1,hy2⟩:=hyW hlt
   rw [hd] at hs hy1 hy2
   obtain ⟨j,k,n,m,es,e,rfl,rfl,he,hse⟩:=T.sub_some hs
   have hjes:=(List.getElem?_eq_some_iff.1 he).1
   have hjn:=T.encs_len es
   have hi1:¬ i+1=0:=by omega
   by_cases hl1:i+1<p.length
   ·obtain ⟨i2,r2,hr2⟩:∃ a b,p.drop (i+1)=a::b:=⟨_,_,List.drop_eq_getElem_cons hl1⟩
    rw [hr2] at hy1 hy2
    have hho:=uX (k:=k) (n:=n) (m:=m) i2 r2 he
    rw [← hr2,← hd] at hho
    have gL:((T.encs es).set j (hol e (i2::r2)))[j]? =some (hol e (i2::r2)):=List.getElem?_set_self (by omega)
    have hLl:j<((T.encs es).set j (hol e (i2::r2))).length:=by rw [List.length_set];omega
    have hLin:=AW (q:=fun r=>decide (r<6)) rfl (i2::r2) e
    rw [pA i2 r2 he] at hy1
    rw [← hr2] at gL hLl hy1 hLin
    have hn2:lst (p.drop (i+1))=jl:=by rw [hr2];exact hy2
    obtain ⟨ga,gb,gc,gw,hge⟩:=AX e (p.drop (i+1))
    rw [hge] at gL hLl hho hLin
    generalize (T.encs es).set j [.int .i64 ga,.int .i64 gb,.int .i64 gc,gw]=L at gL hLl hho
    by_cases hi0:i=0
    ·obtain rfl:=hy0 hi0
     rw [hi0,List.drop_zero] at hho
     rw [hho] at hhe
     simp only [List.cons.injEq,AV.int.injEq,and_true,true_and] at hhe
     obtain ⟨rfl,rfl,rfl,rfl⟩:=hhe
     simp only [if_pos hi0]
     repeat' (first|(refine u'S ?_;simp only [wS,simprocAttr,hg,hA,c1,e3,gL,hLl,if_true,if_false])|refine u'Q fun _ _=>?_|refine aO ?_|refine aP (fun hg=>?_) fun hg=>?_|fail)
     refine hK.go ⟨(i+1,e),hlt,hse,fun h=>absurd h hi1,fun _=>⟨hy1,hn2⟩⟩ (Weak.ref ⟨?_,.inr ⟨by first|exact Nat.zero_le _|exact Nat.le_refl _|simp,?_,fun g cs hg=>aD (hG0 g cs hg),?_,?_⟩⟩) (by simp only;omega)
     ·simp only [wS,simprocAttr,if_neg hi1,if_pos hl1,hge];try exact rfl
     ·exact u'p
     ·intro z hz
      simp only [List.mem_cons,List.not_mem_nil,or_false] at hz
      rcases hz with rfl|rfl|rfl|rfl|rfl|rfl|rfl<;>first|rfl|(simp only [if_neg hi1,if_pos hl1,hge,inR];first|rfl|exact aA hpr|exact hLin|(simp only [inR];rfl))
     ·simp only [List.all_cons,List.all_nil,Bool.and_true,Bool.and_eq_true];try exact ⟨cF (aA hWt),rfl,aD hxr,rfl,rfl,hhx _ rfl⟩
    ·simp only [if_neg hi0,if_pos hlt,hho]
     repeat' (first|(refine u'S ?_;simp only [wS,simprocAttr,hg,hA,c1,e3,gL,hLl,if_true,if_false])|refine u'Q fun _ _=>?_|refine aO ?_|refine aP (fun hg=>?_) fun hg=>?_|fail)
     refine hK.go ⟨(i+1,e),hlt,hse,fun h=>absurd h hi1,fun _=>⟨hy1,hn2⟩⟩ (Weak.ref ⟨?_,.inr ⟨by first|exact Nat.zero_le _|exact Nat.le_refl _|simp,?_,fun g cs hg=>aD (hG0 g cs hg),?_,?_⟩⟩) (by simp only;omega)
     ·simp only [wS,simprocAttr,if_neg hi1,if_pos hl1,hge];try exact rfl
     ·exact u'p
     ·intro z hz
      simp only [List.mem_cons,List.not_mem_nil,or_false] at hz
      rcases hz with rfl|rfl|rfl|rfl|rfl|rfl|rfl<;>first|rfl|(simp only [if_neg hi1,if_pos hl1,hge,inR];first|rfl|exact aA hpr|exact hLin|(simp only [inR];rfl))
     ·simp only [List.all_cons,List.all_nil,Bool.and_true,Bool.and_eq_true];try exact ⟨cF (aA hWt),rfl,aD hxr,rfl,rfl,hhx _ rfl⟩
   ·have hlen:p.length=i+1:=by omega
    have hdn:p.drop (i+1)=[]:=List.drop_eq_nil_of_le (by omega)
    rw [hdn] at hy1 hy2
    simp only [par,T.kids,lst,Int.toNat_natCast] at hy1 hy2
    subst hy1 hy2
    have hho1:=sI k n m es (j:Int)
    rw [JP hWl (by omega)] at hho1
    have hho:hol (.mk k n m es) (p.drop i)=_:=(by rw [hd,hdn]:hol (.mk k n m es) (p.drop i)=hol (.mk k n m es) [(j:Int)]).trans hho1
    by_cases hi0:i=0
    ·obtain rfl:=hy0 hi0
     rw [hi0,List.drop_zero] at hho
     rw [hho] at hhe
     simp only [List.cons.injEq,AV.int.injEq,and_true,true_and] at hhe
     obtain ⟨rfl,rfl,rfl,rfl⟩:=hhe
     simp only [if_pos hi0]
     repeat' (first|(refine u'S ?_;simp only [wS,simprocAttr,hg,hA,c1,e3,hjlW,hWl,hjes,if_true,if_false])|refine u'Q fun _ _=>?_|refine aO ?_|refine aP (fun hg=>?_) fun hg=>?_|fail)
     refine hK.go ⟨(i+1,e),hlt,hse,fun h=>absurd h hi1,fun h=>absurd h hl1⟩ (Weak.ref ⟨?_,.inr ⟨by first|exact Nat.zero_le _|exact Nat.le_refl _|simp,?_,fun g cs hg=>aD (hG0 g cs hg),?_,?_⟩⟩) (by simp only;omega)
     ·simp only [wS,simprocAttr,if_neg hi1,if_neg hl1];try exact rfl
     ·exact u'p
     ·intro z hz
      simp only [List.mem_cons,List.not_mem_nil,or_false] at hz
      rcases hz with rfl|rfl|rfl|rfl|rfl|rfl|rfl<;>first|rfl|(simp only [if_neg hi1,if_neg hl1,inR];first|rfl|exact aA hpr|exact hLin|(simp only [inR];rfl))
     ·simp only [List.all_cons,List.all_nil,Bool.and_true,Bool.and_eq_true];try exact ⟨cF (aA hWt),rfl,aD hxr,rfl,rfl,hhx _ rfl⟩
    ·simp only [if_neg hi0,if_pos hlt,hho]
     repeat' (first|(refine u'S ?_;simp only [wS,simprocAttr,hg,hA,c1,e3,hjlW,hWl,hjes,if_true,if_false])|refine u'Q fun _ _=>?_|refine aO ?_|refine aP (fun hg=>?_) fun hg=>?_|fail)
     refine hK.go ⟨(i+1,e),hlt,hse,fun h=>absurd h hi1,fun h=>absurd h hl1⟩ (Weak.ref ⟨?_,.inr ⟨by first|exact Nat.zero_le _|exact Nat.le_refl _|simp,?_,fun g cs hg=>aD (hG0 g cs hg),?_,?_⟩⟩) (by simp only;omega)
     ·simp only [wS,simprocAttr,if_neg hi1,if_neg hl1];try exact rfl
     ·exact u'p
     ·intro z hz
      simp only [List.mem_cons,List.not_mem_nil,or_false] at hz
      rcases hz with rfl|rfl|rfl|rfl|rfl|rfl|rfl<;>first|rfl|(simp only [if_neg hi1,if_neg hl1,inR];first|rfl|exact aA hpr|exact hLin|(simp only [inR];rfl))
     ·simp only [List.all_cons,List.all_nil,Bool.and_true,Bool.and_eq_true];try exact ⟨cF (aA hWt),rfl,aD hxr,rfl,rfl,hhx _ rfl⟩
  ·have c1:decide (((i:Nat):Int)<((ip.length:Nat):Int))=false:=by simp;omega
   have hi0:¬ i=0:=fun h=>hpe (List.eq_nil_of_length_eq_zero (by omega))
   simp only [if_neg hi0,if_neg hlt]
   have hb1:jl*4+4≤W.length*4:=by omega
   have hb2:jl*4+4≤(T.encs W).flatten.length:=by omega
   repeat' (first|(refine u'S ?_;simp only [wS,simprocAttr,c1])|refine u'Q fun _ _=>?_|refine aV ?_|refine aR (fun hg=>?_) fun hg=>?_|fail)
   refine bH hG0 kx ?_
   simp only [wS,simprocAttr]
   refine ⟨fun _=>?_,fun h=>absurd hb2 h⟩
   rw [hfs']
   refine Cont.go (by assumption) ?_
   repeat' (first|(refine u'S ?_;simp only [wS,simprocAttr])|refine u'Q fun _ _=>?_|refine lM ?_|refine aR (fun hg=>?_) fun hg=>?_|fail)
   refine Cont.go (by assumption) (eH (bN [0] (kp [3]) (l:=[(6,.ptr 3 0 0),(7,.int .i64 0)]) (h:=[.none,.none,.none,.cells 0 [.int .i64 ra,.int .i64 rb,.int .i64 rc,.sl false rd]]) hG0 (fun r hr=>absurd hr (Nat.not_lt_zero r)) ?_ ?_ ?_) ?_)
   ·simp only [wS,simprocAttr,cS,Frz,and_true,true_or]
   ·rfl
   ·simp only [wS,simprocAttr]
    simp only [ToH,and_true]
    exact ⟨.inl rfl,.inl rfl,.inl rfl,.inr ⟨rfl,aD hrr,.inr ⟨.inl (by simp),.inr ⟨0,_,_,rfl,rfl,yQ (hout _ u'p)⟩⟩⟩,rfl,rfl⟩
   repeat' (first|(refine u'S ?_;simp only [wS,simprocAttr])|refine u'Q fun _ _=>?_|refine aV ?_|refine aR (fun hg=>?_) fun hg=>?_|fail)
   refine aX (v:=.agg [.int .i64 ra,.int .i64 rb,.int .i64 rc,.sl false rd]) rfl ?_ ?_
   ·simp only [wS,simprocAttr]
   ·simp only [wS,simprocAttr]
    rw [AM.wk,wkL,AM.wk,hrw,wkL,AM.wk,wkL]
end Go.Proofs.YtggflhbigolakaaGreatDoor
