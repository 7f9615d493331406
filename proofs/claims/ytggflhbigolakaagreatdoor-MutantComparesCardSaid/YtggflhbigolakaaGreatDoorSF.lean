import Derived.Test.YtggflhbigolakaaGreatDoorP1
import Derived.Test.YtggflhbigolakaaGreatDoorSC
import Derived.Test.YtggflhbigolakaaGreatDoorVG
set_option linter.unusedVariables false
set_option linter.unusedSimpArgs false
namespace Go.Proofs.YtggflhbigolakaaGreatDoor
open Go.AM
attribute [local irreducible] AWp aY bC bI bU bW aN aS bL
set_option maxRecDepth 100000
theorem kr {s:AS} {fp:List Nat} {q:Nat→Bool} {k:Nat} {x:ARow} (h1:q k=true) (h2:aG q x=true) (h3:k ∉ fp):(q k=false∧x=.none)∨(q k=true∧aG q x=true∧iU s.row fp k x x):=.inr ⟨h1,h2,.inr ⟨.inl h3,.inl rfl⟩⟩
namespace T
def zero:T:=.mk 0 0 0 []
mutual
def put (mp:MP) (nn:Int):T→T
 |mk k n m ps=>if k=28 then (c7 mp n).getD zero else mk k (if n= -100 then nn else n) m (puts mp nn ps)
def puts (mp:MP) (nn:Int):List T→List T
 | []=>[]
 |e::es=>put mp nn e::puts mp nn es
end
theorem puts_map (mp:MP) (nn:Int) (es:List T):puts mp nn es=es.map (put mp nn):=by induction es<;>simp_all [puts]
theorem look_good {B:Nat}:∀ {mp:MP},gW B mp→∀ n,1≤B→size ((c7 mp n).getD zero)≤B
 | [],_,n,hB=>by simpa [c7,zero,size,sizes] using hB
 |x::mp,h,n,hB=>by
  rw [c7]
  split
  ·exact h x (by simp)
  ·exact look_good (fun y hy=>h y (by simp [hy])) n hB
mutual
theorem put_size {B:Nat} {mp:MP} (h:gW B mp) (hB:1≤B) (nn:Int):∀ t:T,size (put mp nn t)≤size t*B
 |mk k n m ps=>by
  have h1:=xN h hB nn ps
  rw [put]
  split
  ·have:=look_good h n hB
   simp only [size]
   exact Nat.le_trans this (Nat.le_mul_of_pos_left B (by omega))
  ·simp only [size,Nat.add_mul,Nat.one_mul];omega
theorem xN {B:Nat} {mp:MP} (h:gW B mp) (hB:1≤B) (nn:Int):∀ ts:List T,sizes (puts mp nn ts)≤sizes ts*B
 | []=>by simp [puts,sizes]
 |t::ts=>by
  have h1:=put_size h hB nn t
  have h2:=xN h hB nn ts
  simp only [puts,sizes,Nat.add_mul];omega
end
end T
def T8 (N:Nat):Prop:=∀ x:T,T.size x≤N→∀ (mp:MP),gW 1000000000000 mp→∀ (ck cn cm:Int) (CE:List (List AV)),inE aC CE=true→∀ rows:Nat→ARow,
 rows 1=.cells 0 [.int .i64 ck,.int .i64 cn,.int .i64 cm,.sl false CE]→rows 3=cE mp→rows 4=.cells 0 [.omp 3]→rows 5=.cells 0 [.fn (.func 61) [] [.ptr 4 0 0,.ptr 1 0 0,.ptr 5 0 0]]→
 dH Tryz.prog G0 61 [.agg (T.enc x),.ptr 4 0 0,.ptr 1 0 0,.ptr 5 0 0] rows [1,3,4,5] ⟨.agg (T.enc (T.put mp cn x)),[]⟩
set_option maxHeartbeats 8000000 in
theorem PP : ∀ N : Nat, N ≤ 1000000000000 → T8 N := by
 intro N
 induction N with
 |zero=>intro _ x hx;have:=T.size_pos x;omega
 | succ N ih =>
  intro hN x hx mp hm ck cn cm CE hCE rows h1 h3 h4 h5
  have ih:=ih (by omega)
  have htx:=T.enc_tree x
  obtain ⟨k,n,m,es⟩:=x
  have hls:=T.len_sizes es
  simp only [T.size] at hx
  have hot:=T.enc_tree (T.put mp cn (.mk k n m es))
  have how:=T.wk_enc (T.put mp cn (.mk k n m es))
  obtain ⟨out,hout⟩:∃ o,o=T.put mp cn (.mk k n m es):=⟨_,rfl⟩
  rw [← hout] at hot how ⊢
  rw [T.put] at hout
  simp only [T.enc] at htx ⊢
  have hgt:=fun (i:Nat) (e:T)=>T.encs_get (es:=es) (i:=i) (e:=e)
  have hln:=T.encs_len es
  have hte:=T.encs_tree es
  generalize T.encs es=XE at htx hgt hln hte ⊢
  refine cD [.dead,.cells 0 [.int .i64 ck,.int .i64 cn,.int .i64 cm,.sl false CE],.dead,cE mp,.cells 0 [.omp 3],.cells 0 [.fn (.func 61) [] [.ptr 4 0 0,.ptr 1 0 0,.ptr 5 0 0]]] hG0 Tryz.func61 rfl (by kernel_rfl) (by simp [Tryz.ntmps61]) ?_ ?_ ?_ ?_ ?_ ?_ ?_
  ·intro r hr
   simp only [List.mem_cons,List.not_mem_nil,or_false] at hr
   rcases hr with rfl|rfl|rfl|rfl
   ·exact h1.symm
   ·exact h3.symm
   ·exact h4.symm
   ·exact h5.symm
  ·intro r hr
   match r,hr with
   |0,_=>simp
   |1,hr=>exact absurd (by simp) hr
   |2,_=>simp
   |3,hr=>exact absurd (by simp) hr
   |4,hr=>exact absurd (by simp) hr
   |5,hr=>exact absurd (by simp) hr
   |r+6,_=>simp
  ·simp only [inL,inR,List.length_cons,List.length_nil,Nat.reduceAdd,Nat.reduceLT,decide_true,Bool.true_and,Bool.and_true];exact aA hte
  ·intro r hr
   simp only [List.mem_cons,List.not_mem_nil,or_false] at hr
   rcases hr with rfl|rfl|rfl|rfl
   ·rw [h1];exact (by simp only [aG,inL,inR,Bool.true_and,Bool.and_true];exact aA hCE)
   ·rw [h3];exact dA _
   ·rw [h4];exact rfl
   ·rw [h5];exact rfl
  ·intro r hr h
   simp only [List.mem_cons,List.not_mem_nil,or_false] at hr
   simp only [List.length_cons,List.length_nil] at h
   omega
  ·simp
  simp only [Tryz.ntmps61,aH,Nat.reduceAdd,List.length_cons,List.length_nil]
  have post:∀ s:AS,s.row 1=.cells 0 [.int .i64 ck,.int .i64 cn,.int .i64 cm,.sl false CE]→s.row 3=cE mp→s.row 4=.cells 0 [.omp 3]→s.row 5=.cells 0 [.fn (.func 61) [] [.ptr 4 0 0,.ptr 1 0 0,.ptr 5 0 0]]→∀ v,(v=.agg (T.enc out)∨AM.wk v=.agg (T.enc out))→inR aC v=true→
    (v=(Eff.mk (.agg (T.enc out)) []).val∨AM.wk v=(Eff.mk (.agg (T.enc out)) []).val)∧inR (fun r=>[1,3,4,5].contains r) v=true∧∀ r∈[1,3,4,5],s.row r=upd rows (Eff.mk (.agg (T.enc out)) []).wr r∧aG (fun r=>[1,3,4,5].contains r) (s.row r)=true:=fun s a1 a3 a4 a5 v hv ht=>by
   refine ⟨hv,FU ht,fun r hr=>?_⟩
   simp only [List.mem_cons,List.not_mem_nil,or_false] at hr
   rcases hr with rfl|rfl|rfl|rfl
   ·rw [a1];exact ⟨h1.symm,by simp only [aG,inL,inR,aA hCE,Bool.and_self]⟩
   ·rw [a3];exact ⟨h3.symm,dA _⟩
   ·rw [a4];exact ⟨h4.symm,rfl⟩
   ·rw [a5];exact ⟨h5.symm,rfl⟩
  refine jD ?_
  by_cases hk:k=28
  ·have e28:(k==28)=true:=by simp [hk]
   rw [if_pos hk] at hout
   have hsz:=T.look_good hm n (by decide)
   rw [← hout] at hsz
   have hcl:=NX _ out (Nat.le_refl _) hsz
   obtain ⟨oa,ob,oc,od,hoe⟩:=aI out
   rw [hoe] at hcl hot post ⊢
   cases hf:jK (pG mp) n 0 with
   |some j=>
    obtain ⟨y,_,hy,hlk⟩:=mX mp n 0 j hf
    rw [Nat.sub_zero] at hy
    have hv:=w7 hy
    rw [hlk,Option.getD_some] at hout
    rw [← hout,hoe] at hv
    repeat' (first|(refine u'S ?_;simp only [wS,simprocAttr,e28,cE,j5,hf,hv])|refine u'Q fun _ _=>?_|refine aV ?_|refine aR (fun hg=>?_) fun hg=>?_|fail)
    refine bH hG0 hcl ?_
    simp only [wS,simprocAttr,cE]
    repeat' (first|(refine u'S ?_;simp only [wS,simprocAttr,cE])|refine u'Q fun _ _=>?_|refine aV ?_|refine aR (fun hg=>?_) fun hg=>?_|fail)
    refine ⟨_,lZ,bV (v:=.agg [.int .i64 oa,.int .i64 ob,.int .i64 oc,.sl false od]) rfl ?_ (post _ ?_ ?_ ?_ ?_ _ (.inl rfl) (by simpa only [inR] using hot))⟩<;>(simp only [wS,simprocAttr,cE];try exact rfl)
   |none=>
    rw [mY mp n 0 hf,Option.getD_none] at hout
    obtain ⟨rfl,rfl,rfl,rfl⟩:oa=0∧ob=0∧oc=0∧od=[]:=by
     rw [hout,T.zero,T.enc,T.encs] at hoe
     simp only [List.cons.injEq,AV.int.injEq,AV.sl.injEq,true_and,and_true] at hoe
     exact ⟨hoe.1.symm,hoe.2.1.symm,hoe.2.2.1.symm,hoe.2.2.2.symm⟩
    have hcl:=D1 (a:=[.int .i64 0,.int .i64 0,.int .i64 0,.sl true []]) hcl rfl rfl
    repeat' (first|(refine u'S ?_;simp only [wS,simprocAttr,e28,cE,j5,hf])|refine u'Q fun _ _=>?_|refine aV ?_|refine aR (fun hg=>?_) fun hg=>?_|fail)
    refine bH hG0 hcl ?_
    simp only [wS,simprocAttr,cE]
    repeat' (first|(refine u'S ?_;simp only [wS,simprocAttr,cE])|refine u'Q fun _ _=>?_|refine aV ?_|refine aR (fun hg=>?_) fun hg=>?_|fail)
    refine ⟨_,lZ,bV (v:=.agg [.int .i64 0,.int .i64 0,.int .i64 0,.sl false []]) rfl ?_ (post _ ?_ ?_ ?_ ?_ _ (.inl rfl) rfl)⟩<;>(simp only [wS,simprocAttr,cE];try exact rfl)
  ·have e28 : (k == 28) = false := by simp [hk]
   rw [if_neg hk] at hout
   obtain ⟨n',hn'⟩:∃ x:Int,x=(if n= -100 then cn else n):=⟨_,rfl⟩
   rw [← hn',T.puts_map] at hout
   have hpt:∀ l:List T,inE aC (l.map fun e=>T.enc (T.put mp cn e))=true:=fun l=>by
    have:=T.encs_tree (l.map (T.put mp cn))
    rw [T.encs_map,List.map_map] at this
    exact this
   have hps:∀ l:List T,∀ e∈l.map (fun e=>T.enc (T.put mp cn e)),e.length=4:=fun l e he=>by
    obtain ⟨y,_,rfl⟩:=List.mem_map.1 he
    exact T.enc_len _
   have hoe:T.enc out=[.int .i64 k,.int .i64 n',.int .i64 m,.sl false (es.map fun e=>T.enc (T.put mp cn e))]:=by
    rw [hout,T.enc,T.encs_map,List.map_map];rfl
   rw [hoe] at hot how post ⊢
   have hnn:(n== -100)=true∧n'=cn∨(n== -100)=false∧n'=n:=by
    by_cases h:n= -100
    ·exact .inl ⟨by simp [h],by rw [hn',if_pos h]⟩
    ·exact .inr ⟨by simp [h],by rw [hn',if_neg h]⟩
   rcases hnn with ⟨e100,e'⟩|⟨e100,e'⟩
   all_goals
    repeat' (first|(refine u'S ?_;simp only [wS,simprocAttr,e28,e100])|refine u'Q fun _ _=>?_|refine aV ?_|refine aR (fun hg=>?_) fun hg=>?_|fail)
    refine aJ (α:={i:Nat // i≤es.length}) (fun i=>[(1,.ptr 4 0 0),(2,.ptr 1 0 0),(3,.ptr 5 0 0),(4,.ptr 6 0 0),(5,.ptr 7 0 0),(6,.ptr 8 0 0),(31,.sl false XE),(32,.int .i64 (XE.length:Nat)),(33,.int .i64 (i.1:Nat))]) (fun i=>[.dead,.cells 0 [.int .i64 ck,.int .i64 cn,.int .i64 cm,.sl false CE],.dead,cE mp,.cells 0 [.omp 3],.cells 0 [.fn (.func 61) [] [.ptr 4 0 0,.ptr 1 0 0,.ptr 5 0 0]],.cells 0 [.int .i64 k,.int .i64 n,.int .i64 m,.sl false XE],.cells 0 [.int .i64 0,.int .i64 0,.int .i64 0,.sl true []],.cells 0 [.int .i64 k,.int .i64 n',.int .i64 m,rv 9 (i.1 - 1) 4 ((es.take i.1).map fun e=>T.enc (T.put mp cn e))],rvR (i.1 - 1) ((es.take i.1).map fun e=>T.enc (T.put mp cn e))]) (fun i=>es.length - i.1) ⟨0,Nat.zero_le _⟩ (bN [] (kp [0,1,2,3,4,5,6,7,8,9]) hG0 (fun r hr=>by have h6:r<6:=hr;clear hr;simp [kp];omega) ?_ ?_ ?_) ?_
    ·simp only [wS,simprocAttr,cS,Frz,and_true,true_or]
    ·simp only [List.all_cons,List.all_nil,Bool.and_true,Bool.and_eq_true,inR,aA hte];exact ⟨rfl,rfl,rfl,rfl,rfl,rfl⟩
    ·simp only [wS,simprocAttr,List.take_zero,List.map_nil,dS,dM,e']
     simp only [ToH,and_true]
     exact ⟨kr rfl rfl (by simp),kr rfl (by simp only [aG,inL,inR,Bool.true_and,Bool.and_true];exact aA hCE) (by simp),kr rfl rfl (by simp),kr rfl (dA _) (by simp),kr rfl rfl (by simp),kr rfl rfl (by simp),kr rfl (by simp only [aG,inL,inR,Bool.true_and,Bool.and_true];exact aA hte) (by simp),kr rfl rfl (by simp),.inr ⟨rfl,rfl,.inr ⟨.inl (by simp),.inr ⟨0,_,_,rfl,rfl,.inl rfl,.inl rfl,.inl rfl,.inr .toRsv,trivial⟩⟩⟩⟩
    ·rintro ⟨i,hi⟩ K3 hK3
     try simp only at hi
     have hal:((es.take i).map fun e=>T.enc (T.put mp cn e)).length=i:=by rw [List.length_map,List.length_take];omega
     by_cases hlt:i<es.length
     ·have c1:decide (((i:Nat):Int)<((XE.length:Nat):Int))=true:=by simp;omega
      have hltE:i<XE.length:=by omega
      obtain ⟨e,he⟩:∃ e,es[i]? =some e:=⟨_,List.getElem?_eq_getElem hlt⟩
      have hg:=hgt i e he
      have hce:=fun rows h1 h3 h4 h5=>ih e (by have:=T.size_mem (List.mem_of_getElem? he);omega) mp hm ck cn cm CE hCE rows h1 h3 h4 h5
      have htk:=eY (f:=fun e=>T.enc (T.put mp cn e)) he
      have e3:=aL (k:=i) hlt (by omega)
      obtain ⟨xa,xb,xc,xd,hxe⟩:=aI e
      obtain ⟨pa,pb,pc,pd,hpp⟩:=aI (T.put mp cn e)
      rw [hxe] at hg hce
      rw [hpp] at hce htk
      have hps':=hps (es.take i)
      have hpn:=hpt (es.take (i+1))
      have hvv:i=if ((es.take i).map fun e=>T.enc (T.put mp cn e))=[] then 0 else i - 1+1:=by
       by_cases h0:((es.take i).map fun e=>T.enc (T.put mp cn e))=[]
       ·rw [if_pos h0];rw [h0] at hal;simpa using hal.symm
       ·rw [if_neg h0]
        have:i≠0:=fun hz=>h0 (by rw [hz];rfl)
        omega
      repeat' (first|(refine u'S ?_;simp only [wS,simprocAttr,hg,hltE,c1,e3,↓aM,↓aF])|refine u'Q fun _ _=>?_|refine aO ?_|refine aP (fun hg=>?_) fun hg=>?_|refine dW (hce _ u'p u'p u'p u'p) (u'T ?_)|refine b8 (v':=i) (es:=[[.int .i64 pa,.int .i64 pb,.int .i64 pc,.sl false pd]]) (by':=48) (by kernel_rfl) u'p hvv hps' (by simp [cJ]) (by simp) (by rw [hal];simp only [List.length_singleton];omega) (u'T ?_))
      refine hK3.go ⟨i+1,hlt⟩ (Weak.ref ⟨?_,.inr ⟨by first|exact Nat.zero_le _|exact Nat.le_refl _|simp,?_,fun g cs hg=>aD (hG0 g cs hg),?_,?_⟩⟩) (by simp only;omega)
      ·simp only [wS,simprocAttr,↓aM,↓aF];try exact rfl
      ·simp only [wS,simprocAttr,Nat.add_sub_cancel,htk];try exact rfl
      ·intro z hz
       simp only [List.mem_cons,List.not_mem_nil,or_false] at hz
       rcases hz with rfl|rfl|rfl|rfl|rfl|rfl|rfl|rfl|rfl<;>first|rfl|(simp only [inR];exact aA hte)
      ·simp only [List.all_cons,List.all_nil,Bool.and_true,Bool.and_eq_true];try exact ⟨rfl,(by simp only [aG,inL,inR,Bool.true_and,Bool.and_true];exact aA hCE),rfl,dA _,rfl,rfl,(by simp only [aG,inL,inR,Bool.true_and,Bool.and_true];exact aA hte),rfl,by simp only [aG,inL,inR,Bool.true_and,Bool.and_true];exact cH rfl,bQ (aA (hpt _))⟩
     ·have c1:decide (((i:Nat):Int)<((XE.length:Nat):Int))=false:=by simp;omega
      obtain rfl:i=es.length:=by omega
      rw [List.take_length] at hal
      repeat' (first|(refine u'S ?_;simp only [wS,simprocAttr,List.take_length,c1])|refine u'Q fun _ _=>?_|refine lM ?_|refine aR (fun hg=>?_) fun hg=>?_|fail)
      refine Cont.go (by assumption) ?_
      repeat' (first|(refine u'S ?_;simp only [wS,simprocAttr,List.take_length,c1])|refine u'Q fun _ _=>?_|refine lM ?_|refine aR (fun hg=>?_) fun hg=>?_|fail)
      refine Cont.go (by assumption) (eH (bN [9] (kp [0,1,2,3,4,5,6,7,8]) (l:=[(5,.ptr 7 0 0),(6,.ptr 8 0 0)]) (h:=[.dead,.cells 0 [.int .i64 ck,.int .i64 cn,.int .i64 cm,.sl false CE],.dead,cE mp,.cells 0 [.omp 3],.cells 0 [.fn (.func 61) [] [.ptr 4 0 0,.ptr 1 0 0,.ptr 5 0 0]],.cells 0 [.int .i64 k,.int .i64 n,.int .i64 m,.sl false XE],.cells 0 [.int .i64 0,.int .i64 0,.int .i64 0,.sl true []],.cells 0 [.int .i64 k,.int .i64 n',.int .i64 m,.sl false (es.map fun e=>T.enc (T.put mp cn e))]]) hG0 (fun r hr=>by have h6:r<6:=hr;clear hr;simp [kp];omega) ?_ ?_ ?_) ?_)
      ·simp only [wS,simprocAttr,cS,Frz,and_true,true_or]
      ·rfl
      ·simp only [wS,simprocAttr,List.take_length]
       simp only [ToH,and_true]
       exact ⟨kr rfl rfl (by simp),kr rfl (by simp only [aG,inL,inR,Bool.true_and,Bool.and_true];exact aA hCE) (by simp),kr rfl rfl (by simp),kr rfl (dA _) (by simp),kr rfl rfl (by simp),kr rfl rfl (by simp),kr rfl (by simp only [aG,inL,inR,Bool.true_and,Bool.and_true];exact aA hte) (by simp),kr rfl rfl (by simp),.inr ⟨rfl,by simp only [aG,inL,inR,Bool.true_and,Bool.and_true];exact aA (hpt es),.inr ⟨.inl (by simp),.inr ⟨0,_,_,rfl,rfl,.inl rfl,.inl rfl,.inl rfl,.inr (fB (v:=es.length - 1) rfl (by simp) (hps es) (hpt es)),trivial⟩⟩⟩,rfl⟩
      repeat' (first|(refine u'S ?_;simp only [wS,simprocAttr])|refine u'Q fun _ _=>?_|refine aV ?_|refine aR (fun hg=>?_) fun hg=>?_|fail)
      refine ⟨_,lZ,bV (v:=.agg [.int .i64 k,.int .i64 n',.int .i64 m,.sl false (es.map fun e=>T.enc (T.put mp cn e))]) rfl ?_ (post _ ?_ ?_ ?_ ?_ _ (.inl rfl) (by simpa only [inR] using hot))⟩<;>(simp only [wS,simprocAttr];try exact rfl)
def G7 (cv:Int) (out:T):Option T:=if cv=0 then none else some out
def T.app (nm:ByteArray) (f p:T) (b:Int) (t:T):Option T:=if fK nm f p b=true then (match T.mat f t true [] with
  |(true,mp)=>G7 (T.cmp (T.put mp t.num p) t) (T.put mp t.num p)
  |(false,_)=>none) else none
def fJ:Option T→AV
 |some x=>.tup [.agg (T.enc x),.bool true]
 |none=>.tup [.agg [.int .i64 0,.int .i64 0,.int .i64 0,.sl false []],.bool false]
theorem j4 (r:Option T):inR aC (fJ r)=true:=by cases r<;>simp only [fJ,inR,inL,inE,T.enc_tree,Bool.and_self]
theorem lL {nm:ByteArray} {f p:T} {b:Int} (h:fK nm f p b=true):T.size p≤32:=by
 simp only [fK,tD,Bool.and_eq_true,decide_eq_true_eq] at h
 exact h.2.2.2.2.1.1
set_option maxHeartbeats 8000000 in
theorem BM (nm:ByteArray) (f p:T) (b:Int) (hf:T.size f≤1000000000000) (hp:T.size p≤1000000000000) (t:T) (ht:T.size t≤1000000000000):Pure Tryz.prog G0 25 [.agg (opE nm f p b),.agg (T.enc t)] (fJ (T.app nm f p b t)):=by
 have kv:=M7 nm f p b hf hp
 have ho:=gI nm f p b
 have h2t:=T.enc_tree t
 have km:=fun rows h3=>RT _ (Nat.le_refl _) f hf t ht true [] (fun y hy=>by cases hy) rows h3
 have hg:=T.mat_good f t true [] ht (fun y hy=>by cases hy)
 obtain ⟨res,hres⟩:∃ r,r=T.app nm f p b t:=⟨_,rfl⟩
 have hrt:=j4 res
 have hvs:fK nm f p b=true→T.size p≤32:=lL
 unfold T.app at hres
 rw [show T.app nm f p b t=res from hres.symm]
 generalize fK nm f p b=V at kv hres hvs
 have hps:T.size (T.put (T.mat f t true []).2 t.num p)≤T.size p*1000000000000:=T.put_size hg (by decide) _ _
 have kp:∀ (ck cn cm:Int) (CE:List (List AV)),T.enc t=[.int .i64 ck,.int .i64 cn,.int .i64 cm,.sl false CE]→∀ rows:Nat→ARow,rows 1=.cells 0 [.int .i64 ck,.int .i64 cn,.int .i64 cm,.sl false CE]→rows 3=cE (T.mat f t true []).2→rows 4=.cells 0 [.omp 3]→rows 5=.cells 0 [.fn (.func 61) [] [.ptr 4 0 0,.ptr 1 0 0,.ptr 5 0 0]]→
   dH Tryz.prog G0 61 [.agg (T.enc p),.ptr 4 0 0,.ptr 1 0 0,.ptr 5 0 0] rows [1,3,4,5] ⟨.agg (T.enc (T.put (T.mat f t true []).2 cn p)),[]⟩:=fun ck cn cm CE he rows h1 h3 h4 h5=>
  PP _ (Nat.le_refl _) p hp _ hg ck cn cm CE (by rw [he] at h2t;simpa only [inL,inR,Bool.true_and,Bool.and_true] using h2t) rows h1 h3 h4 h5
 have kc:=fun h=>sX 100000000000000000 (T.put (T.mat f t true []).2 t.num p) t h (Nat.le_refl _)
 rcases hm:T.mat f t true [] with ⟨ok,mp⟩
 rw [hm] at km hg hps kp kc
 simp only [hm] at hres
 simp only at hps kp kc
 obtain ⟨tk,tn,tm,ts⟩:=t
 have kp:=kp tk tn tm (T.encs ts) rfl
 simp only [T.num] at hps kc hres
 obtain ⟨fk,fn,fm,fs⟩:=f
 obtain ⟨pk,pn,pm,ps⟩:=p
 clear hm
 simp only [opE,T.enc,List.cons_append,List.nil_append] at ho h2t kv km kp kc ⊢
 generalize T.encs fs=FE at ho kv km ⊢
 generalize T.encs ps=PE' at ho kv kp ⊢
 generalize T.encs ts=TE at h2t km kp kc ⊢
 refine aU hG0 Tryz.func25 rfl (by kernel_rfl) (by simp [Tryz.ntmps25]) (by simp only [inL,inR,Bool.true_and,Bool.and_true,Bool.and_eq_true] at ho h2t ⊢;exact ⟨ho,h2t⟩) (by exact hrt) ?_
 simp only [Tryz.ntmps25,aH,Nat.reduceAdd]
 have e0:ARow.map [] []=cE []:=rfl
 cases V with
 |false=>
  simp only [Bool.false_eq_true,if_false] at hres
  repeat' (first|(refine u'S ?_;simp only [wS,simprocAttr,Bool.not_true,Bool.not_false])|refine u'Q fun _ _=>?_|refine aO ?_|refine aP (fun hg=>?_) fun hg=>?_|refine u'G ?_|fail)
  refine aX (v:=.agg [.int .i64 0,.int .i64 0,.int .i64 0,.sl true []]) rfl ?_ ?_
  ·simp only [wS,simprocAttr]
  ·simp only [wS,simprocAttr]
   rw [hres];rfl
 |true=>
  have hp32:=hvs rfl
  cases ok with
  |false=>
   simp only [if_true] at hres
   repeat' (first|(refine u'S ?_;simp only [wS,simprocAttr,Bool.not_true,Bool.not_false])|refine u'Q fun _ _=>?_|refine aO ?_|refine aP (fun hg=>?_) fun hg=>?_|refine u'G ?_|refine dW (km _ u'p) (u'T ?_))
   refine aX (v:=.agg [.int .i64 0,.int .i64 0,.int .i64 0,.sl true []]) rfl ?_ ?_
   ·simp only [wS,simprocAttr]
   ·simp only [wS,simprocAttr]
    rw [hres];rfl
  |true=>
   simp only [if_true] at hres
   generalize T.put mp tn (.mk pk pn pm ps)=out at hps kc hres kp
   obtain ⟨ok',on,om,oe⟩:=out
   have hot:=T.wk_encs oe
   simp only [T.enc] at kc kp
   have kc:=kc (by omega)
   generalize T.cmp (.mk ok' on om oe) (.mk tk tn tm ts)=cv at kc hres
   repeat' (first|(refine u'S ?_;simp only [wS,simprocAttr,Bool.not_true,Bool.not_false])|refine u'Q fun _ _=>?_|refine aO ?_|refine aP (fun hg=>?_) fun hg=>?_|refine u'G ?_|refine dW (km _ u'p) (u'T ?_)|refine dW (kp _ u'p u'p u'p u'p) (u'T ?_))
   ·rw [G7,if_pos (by simp_all)] at hres
    refine aX (v:=.agg [.int .i64 0,.int .i64 0,.int .i64 0,.sl true []]) rfl ?_ ?_
    ·simp only [wS,simprocAttr]
    ·simp only [wS,simprocAttr]
     rw [hres];rfl
   ·rw [G7,if_neg (by simp_all)] at hres
    refine aX (v:=.agg [.int .i64 ok',.int .i64 on,.int .i64 om,.sl false (T.encs oe)]) rfl ?_ ?_
    ·simp only [wS,simprocAttr]
    ·simp only [wS,simprocAttr]
     rw [hres]
     simp only [fJ,T.enc,AM.wk,wkL,dI,hot]
mutual
def T.wd:T→Prop
 | .mk _ _ _ es=>es.length≤2000000000000∧T.wds es
def T.wds:List T→Prop
 | []=>True
 |e::es=>T.wd e∧T.wds es
end
theorem T.wds_mem:∀ {es:List T},T.wds es→∀ e∈es,T.wd e
 | [],_,e,h=>by cases h
 |x::es,hw,e,h=>by
  rw [T.wds] at hw
  rcases List.mem_cons.1 h with rfl|h
  ·exact hw.1
  ·exact T.wds_mem hw.2 e h
mutual
theorem T.wd_of:∀ {t:T},T.size t≤2000000000000→T.wd t
 | .mk k n m es,h=>by
  have:=T.len_sizes es
  simp only [T.size] at h
  exact ⟨by omega,T.wds_of (by omega)⟩
theorem T.wds_of:∀ {es:List T},T.sizes es≤2000000000000→T.wds es
 | [],_=>trivial
 |e::es,h=>by
  simp only [T.sizes] at h
  exact ⟨T.wd_of (by omega),T.wds_of (by omega)⟩
end
set_option maxHeartbeats 4000000 in
theorem jZ:∀ (N:Nat) (t:T),T.size t≤N→T.wd t→Pure Tryz.prog G0 58 [.agg (T.enc t)] (.agg (T.enc t)):=by
 intro N
 induction N with
 |zero=>intro t h;have:=T.size_pos t;omega
 |succ N ih=>
  intro t ht hwd
  have htr:=T.enc_tree t
  have hwk:=T.wk_enc t
  obtain ⟨k,n,m,es⟩:=t
  have ih2:∀ e∈es,Pure Tryz.prog G0 58 [.agg (T.enc e)] (.agg (T.enc e)):=fun e he=>ih e (by have:=T.size_mem he;simp only [T.size] at ht;omega) (T.wds_mem hwd.2 e he)
  have hwl:es.length≤2000000000000:=hwd.1
  simp only [T.size] at ht
  simp only [T.enc] at htr hwk ⊢
  have hgt:=fun (i:Nat) (e:T)=>T.encs_get (es:=es) (i:=i) (e:=e)
  have hln:=T.encs_len es
  have hte:=T.encs_tree es
  have hE:=T.encs_map es
  have hpt:∀ l:List T,inE aC (l.map T.enc)=true:=fun l=>by rw [← T.encs_map];exact T.encs_tree l
  have hps:∀ l:List T,∀ e∈l.map T.enc,e.length=4:=fun l e he=>by
   obtain ⟨y,_,rfl⟩:=List.mem_map.1 he
   exact T.enc_len y
  generalize T.encs es=E at hgt hln hte htr hwk hE ⊢
  refine aU hG0 Tryz.func58 rfl (by kernel_rfl) (by simp [Tryz.ntmps58]) (by simp only [inL,inR,hte,Bool.and_self]) (by simp only [inR];exact htr) ?_
  simp only [Tryz.ntmps58,aH,Nat.reduceAdd]
  repeat' (first|(refine u'S ?_;simp only [wS,simprocAttr])|refine u'Q fun _ _=>?_|refine aV ?_|refine aR (fun hg=>?_) fun hg=>?_|fail)
  refine aJ (α:={i:Nat // i≤es.length}) (fun i=>[(1,.ptr 0 0 0),(2,.ptr 1 0 0),(9,.sl false E),(10,.int .i64 (E.length:Nat)),(11,.int .i64 (i.1:Nat))]) (fun i=>[.cells 0 [.int .i64 k,.int .i64 n,.int .i64 m,rv 2 (i.1 - 1) 4 ((es.take i.1).map T.enc)],.cells 0 [.int .i64 0,.int .i64 0,.int .i64 0,.sl true []],rvR (i.1 - 1) ((es.take i.1).map T.enc)]) (fun i=>es.length - i.1) ⟨0,Nat.zero_le _⟩ (bN [] (kp [0,1,2]) hG0 (fun r hr=>absurd hr (Nat.not_lt_zero r)) ?_ ?_ ?_) ?_
  ·simp only [wS,simprocAttr,cS,Frz,and_true,true_or]
  ·simp only [List.all_cons,List.all_nil,Bool.and_true,Bool.and_eq_true,inR,aA hte];exact ⟨rfl,rfl⟩
  ·simp only [wS,simprocAttr,List.take_zero,List.map_nil,dS,dM]
   simp only [ToH,and_true]
   exact ⟨.inr ⟨rfl,rfl,.inr ⟨.inl (by simp),.inr ⟨0,_,_,rfl,rfl,.inl rfl,.inl rfl,.inl rfl,.inr .toRsv,trivial⟩⟩⟩,kr rfl rfl (by simp)⟩
  ·rintro ⟨i,hi⟩ K3 hK3
   try simp only at hi
   have hal:((es.take i).map T.enc).length=i:=by rw [List.length_map,List.length_take];omega
   by_cases hlt:i<es.length
   ·have c1:decide (((i:Nat):Int)<((E.length:Nat):Int))=true:=by simp;omega
    have hltE:i<E.length:=by omega
    obtain ⟨e,he⟩:∃ e,es[i]? =some e:=⟨_,List.getElem?_eq_getElem hlt⟩
    have hg:=hgt i e he
    have hce:=ih2 e (List.mem_of_getElem? he)
    have htk:=eY (f:=T.enc) he
    have e3:=aL (k:=i) hlt (by omega)
    obtain ⟨xa,xb,xc,xd,hxe⟩:=aI e
    rw [hxe] at hg hce htk
    have hps':=hps (es.take i)
    have hvv:i=if ((es.take i).map T.enc)=[] then 0 else i - 1+1:=by
     by_cases h0:((es.take i).map T.enc)=[]
     ·rw [if_pos h0];rw [h0] at hal;simpa using hal.symm
     ·rw [if_neg h0]
      have:i≠0:=fun hz=>h0 (by rw [hz];rfl)
      omega
    repeat' (first|(refine u'S ?_;simp only [wS,simprocAttr,hg,hltE,c1,e3,↓aM,↓aF])|refine u'Q fun _ _=>?_|refine aO ?_|refine aP (fun hg=>?_) fun hg=>?_|refine u'G ?_|refine b8 (v':=i) (es:=[[.int .i64 xa,.int .i64 xb,.int .i64 xc,.sl false xd]]) (by':=48) (by kernel_rfl) u'p hvv hps' (by simp [cJ]) (by simp) (by rw [hal];simp only [List.length_singleton];omega) (u'T ?_))
    refine hK3.go ⟨i+1,hlt⟩ (Weak.ref ⟨?_,.inr ⟨by first|exact Nat.zero_le _|exact Nat.le_refl _|simp,?_,fun g cs hg=>aD (hG0 g cs hg),?_,?_⟩⟩) (by simp only;omega)
    ·simp only [wS,simprocAttr,↓aM,↓aF];try exact rfl
    ·simp only [wS,simprocAttr,Nat.add_sub_cancel,htk];try exact rfl
    ·intro z hz
     simp only [List.mem_cons,List.not_mem_nil,or_false] at hz
     rcases hz with rfl|rfl|rfl|rfl|rfl<;>first|rfl|(simp only [inR];exact aA hte)
    ·simp only [List.all_cons,List.all_nil,Bool.and_true,Bool.and_eq_true];try exact ⟨by simp only [aG,inL,inR,Bool.true_and,Bool.and_true];exact cH rfl,rfl,bQ (aA (hpt _))⟩
   ·have c1:decide (((i:Nat):Int)<((E.length:Nat):Int))=false:=by simp;omega
    obtain rfl:i=es.length:=by omega
    rw [List.take_length] at hal
    repeat' (first|(refine u'S ?_;simp only [wS,simprocAttr,List.take_length,c1])|refine u'Q fun _ _=>?_|refine lM ?_|refine aR (fun hg=>?_) fun hg=>?_|fail)
    refine Cont.go (by assumption) ?_
    repeat' (first|(refine u'S ?_;simp only [wS,simprocAttr,List.take_length,c1])|refine u'Q fun _ _=>?_|refine lM ?_|refine aR (fun hg=>?_) fun hg=>?_|fail)
    refine Cont.go (by assumption) (eH (bN [2] (kp [0,1]) (l:=[(1,.ptr 0 0 0),(2,.ptr 1 0 0)]) (h:=[.cells 0 [.int .i64 k,.int .i64 n,.int .i64 m,.sl false (es.map T.enc)],.cells 0 [.int .i64 0,.int .i64 0,.int .i64 0,.sl true []]]) hG0 (fun r hr=>absurd hr (Nat.not_lt_zero r)) ?_ ?_ ?_) ?_)
    ·simp only [wS,simprocAttr,cS,Frz,and_true,true_or]
    ·rfl
    ·simp only [wS,simprocAttr,List.take_length]
     simp only [ToH,and_true]
     exact ⟨.inr ⟨rfl,by simp only [aG,inL,inR,Bool.true_and,Bool.and_true];exact aA (hpt es),.inr ⟨.inl (by simp),.inr ⟨0,_,_,rfl,rfl,.inl rfl,.inl rfl,.inl rfl,.inr (fB (v:=es.length - 1) rfl (by simp) (hps es) (hpt es)),trivial⟩⟩⟩,kr rfl rfl (by simp),rfl⟩
    repeat' (first|(refine u'S ?_;simp only [wS,simprocAttr])|refine u'Q fun _ _=>?_|refine aV ?_|refine aR (fun hg=>?_) fun hg=>?_|fail)
    exact bV (v:=.agg [.int .i64 k,.int .i64 n,.int .i64 m,.sl false (es.map T.enc)]) rfl u'p (by rw [← hE,AM.wk,hwk])
end Go.Proofs.YtggflhbigolakaaGreatDoor
