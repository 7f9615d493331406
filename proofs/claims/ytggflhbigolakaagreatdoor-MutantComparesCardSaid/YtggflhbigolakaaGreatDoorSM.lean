import Derived.Test.YtggflhbigolakaaGreatDoorSJ
import Derived.Test.YtggflhbigolakaaGreatDoorVJ
set_option linter.unusedVariables false
set_option linter.unusedSimpArgs false
namespace Go.Proofs.YtggflhbigolakaaGreatDoor
open Go.AM
attribute [local irreducible] AWp aY bC bI bU bW aN aS bL
set_option maxRecDepth 100000
set_option maxHeartbeats 8000000 in
theorem PL (L : List T) (nn : Int) : ∀ (N : Nat) (x : T), T.size x ≤ N → N ≤ 1000000000000 → T.hok (fun n => 0 ≤ n ∧ n < (L.length : Int)) x → Pure Tryz.prog G0 79 [.agg (T.enc x), .sl false (T.encs L), .int .i64 nn] (.agg (T.enc (T.rput L nn x))) := by
 intro N
 induction N with
 |zero=>intro x h;have:=T.size_pos x;omega
 | succ N ih =>
  intro x hx hN hh
  have htx:=T.enc_tree x
  have hot:=T.enc_tree (T.rput L nn x)
  have how:=T.wk_enc (T.rput L nn x)
  obtain ⟨k,n,m,es⟩:=x
  have ih2:∀ e∈es,T.hok (fun n=>0≤n∧n<(L.length:Int)) e→Pure Tryz.prog G0 79 [.agg (T.enc e),.sl false (T.encs L),.int .i64 nn] (.agg (T.enc (T.rput L nn e))):=fun e he h=>ih e (by have:=T.size_mem he;simp only [T.size] at hx;omega) (by omega) h
  have hls:=T.len_sizes es
  simp only [T.size] at hx
  have hLt:=T.encs_tree L
  have hLg:=fun (i:Nat) (e:T)=>T.encs_get (es:=L) (i:=i) (e:=e)
  have hLl:=T.encs_len L
  obtain ⟨out,hout⟩:∃ o,o=T.rput L nn (.mk k n m es):=⟨_,rfl⟩
  rw [← hout] at hot how ⊢
  rw [T.rput] at hout
  rw [T.hok] at hh
  simp only [T.enc] at htx ⊢
  have hgt:=fun (i:Nat) (e:T)=>T.encs_get (es:=es) (i:=i) (e:=e)
  have hln:=T.encs_len es
  have hte:=T.encs_tree es
  generalize T.encs es=XE at htx hgt hln hte ⊢
  generalize T.encs L=LE at ih2 hLt hLg hLl ⊢
  refine aU hG0 Tryz.func79 rfl (by kernel_rfl) (by simp [Tryz.ntmps79]) (by simp only [inL,inR,Bool.true_and,Bool.and_true,Bool.and_eq_true];exact ⟨hte,hLt⟩) (by simp only [inR];exact hot) ?_
  simp only [Tryz.ntmps79,aH,Nat.reduceAdd]
  by_cases hk:k=28
  ·have e28:(k==28)=true:=by simp [hk]
   rw [if_pos hk] at hout hh
   obtain ⟨kn,rfl⟩:∃ j:Nat,n=j:=⟨n.toNat,by omega⟩
   have hkl:kn<L.length:=by omega
   obtain ⟨y,hy⟩:∃ y,L[kn]? =some y:=⟨_,List.getElem?_eq_getElem hkl⟩
   rw [Int.toNat_natCast,hy,Option.getD_some] at hout
   subst hout
   have gy:=hLg kn out hy
   have hA:kn<LE.length:=by omega
   obtain ⟨oa,ob,oc,od,hoe⟩:=aI out
   rw [hoe] at gy how ⊢
   repeat' (first|(refine u'S ?_;simp only [wS,simprocAttr,e28,gy,hA])|refine u'Q fun _ _=>?_|refine aO ?_|refine aP (fun hg=>?_) fun hg=>?_|fail)
   exact bV (v:=.agg [.int .i64 oa,.int .i64 ob,.int .i64 oc,.sl false od]) rfl u'p (by rw [AM.wk,how])
  ·have e28 : (k == 28) = false := by simp [hk]
   rw [if_neg hk] at hout hh
   obtain ⟨n',hn'⟩:∃ x:Int,x=(if n= -100 then nn else n):=⟨_,rfl⟩
   rw [← hn',T.rputs_map] at hout
   have hpt:∀ l:List T,inE aC (l.map fun e=>T.enc (T.rput L nn e))=true:=fun l=>by
    have:=T.encs_tree (l.map (T.rput L nn))
    rw [T.encs_map,List.map_map] at this
    exact this
   have hps:∀ l:List T,∀ e∈l.map (fun e=>T.enc (T.rput L nn e)),e.length=4:=fun l e he=>by
    obtain ⟨y,_,rfl⟩:=List.mem_map.1 he
    exact T.enc_len _
   have hoe:T.enc out=[.int .i64 k,.int .i64 n',.int .i64 m,.sl false (es.map fun e=>T.enc (T.rput L nn e))]:=by
    rw [hout,T.enc,T.encs_map,List.map_map];rfl
   rw [hoe] at hot how ⊢
   have hnn:(n== -100)=true∧n'=nn∨(n== -100)=false∧n'=n:=by
    by_cases h:n= -100
    ·exact .inl ⟨by simp [h],by rw [hn',if_pos h]⟩
    ·exact .inr ⟨by simp [h],by rw [hn',if_neg h]⟩
   rcases hnn with ⟨e100,e'⟩|⟨e100,e'⟩
   all_goals
    repeat' (first|(refine u'S ?_;simp only [wS,simprocAttr,e28,e100])|refine u'Q fun _ _=>?_|refine aV ?_|refine aR (fun hg=>?_) fun hg=>?_|fail)
    refine aJ (α:={i:Nat // i≤es.length}) (fun i=>[(1,.sl false LE),(2,.int .i64 nn),(3,.ptr 0 0 0),(6,.ptr 1 0 0),(7,.ptr 2 0 0),(8,.int .i64 (i.1:Nat))]) (fun i=>[.cells 0 [.int .i64 k,.int .i64 n,.int .i64 m,.sl false XE],.cells 0 [.int .i64 0,.int .i64 0,.int .i64 0,.sl true []],.cells 0 [.int .i64 k,.int .i64 n',.int .i64 m,rv 3 (i.1 - 1) 4 ((es.take i.1).map fun e=>T.enc (T.rput L nn e))],rvR (i.1 - 1) ((es.take i.1).map fun e=>T.enc (T.rput L nn e))]) (fun i=>es.length - i.1) ⟨0,Nat.zero_le _⟩ (bN [] (kp [0,1,2,3]) hG0 (fun r hr=>absurd hr (Nat.not_lt_zero r)) ?_ ?_ ?_) ?_
    ·simp only [wS,simprocAttr,cS,Frz,and_true,true_or]
    ·simp only [List.all_cons,List.all_nil,inR,aA hLt,Bool.true_and,Bool.and_true];rfl
    ·simp only [wS,simprocAttr,List.take_zero,List.map_nil,dS,dM,e']
     simp only [ToH,and_true]
     exact ⟨kr rfl (by simp only [aG,inL,inR,Bool.true_and,Bool.and_true];exact aA hte) (by simp),kr rfl rfl (by simp),.inr ⟨rfl,rfl,.inr ⟨.inl (by simp),.inr ⟨0,_,_,rfl,rfl,.inl rfl,.inl rfl,.inl rfl,.inr .toRsv,trivial⟩⟩⟩⟩
    ·rintro ⟨i,hi⟩ K3 hK3
     try simp only at hi
     have hal:((es.take i).map fun e=>T.enc (T.rput L nn e)).length=i:=by rw [List.length_map,List.length_take];omega
     by_cases hlt:i<es.length
     ·have c1:decide (((i:Nat):Int)<((XE.length:Nat):Int))=true:=by simp;omega
      have hltE:i<XE.length:=by omega
      obtain ⟨e,he⟩:∃ e,es[i]? =some e:=⟨_,List.getElem?_eq_getElem hlt⟩
      have hg:=hgt i e he
      have hce:=ih2 e (List.mem_of_getElem? he) (T.hoks_mem hh e (List.mem_of_getElem? he))
      have htk:=eY (f:=fun e=>T.enc (T.rput L nn e)) he
      have e3:=aL (k:=i) hlt (by omega)
      obtain ⟨xa,xb,xc,xd,hxe⟩:=aI e
      obtain ⟨pa,pb,pc,pd,hpp⟩:=aI (T.rput L nn e)
      rw [hxe] at hg hce
      rw [hpp] at hce htk
      have hps':=hps (es.take i)
      have hvv:i=if ((es.take i).map fun e=>T.enc (T.rput L nn e))=[] then 0 else i - 1+1:=by
       by_cases h0:((es.take i).map fun e=>T.enc (T.rput L nn e))=[]
       ·rw [if_pos h0];rw [h0] at hal;simpa using hal.symm
       ·rw [if_neg h0]
        have:i≠0:=fun hz=>h0 (by rw [hz];rfl)
        omega
      repeat' (first|(refine u'S ?_;simp only [wS,simprocAttr,hg,hltE,c1,e3,↓aM,↓aF])|refine u'Q fun _ _=>?_|refine aO ?_|refine aP (fun hg=>?_) fun hg=>?_|refine u'G ?_|refine b8 (v':=i) (es:=[[.int .i64 pa,.int .i64 pb,.int .i64 pc,.sl false pd]]) (by':=48) (by kernel_rfl) u'p hvv hps' (by simp [cJ]) (by simp) (by rw [hal];simp only [List.length_singleton];omega) (u'T ?_))
      refine hK3.go ⟨i+1,hlt⟩ (Weak.ref ⟨?_,.inr ⟨by first|exact Nat.zero_le _|exact Nat.le_refl _|simp,?_,fun g cs hg=>aD (hG0 g cs hg),?_,?_⟩⟩) (by simp only;omega)
      ·simp only [wS,simprocAttr,↓aM,↓aF];try exact rfl
      ·simp only [wS,simprocAttr,Nat.add_sub_cancel,htk];try exact rfl
      ·intro z hz
       simp only [List.mem_cons,List.not_mem_nil,or_false] at hz
       rcases hz with rfl|rfl|rfl|rfl|rfl|rfl<;>first|rfl|(simp only [inR];exact aA hLt)
      ·simp only [List.all_cons,List.all_nil,Bool.and_true,Bool.and_eq_true];try exact ⟨(by simp only [aG,inL,inR,Bool.true_and,Bool.and_true];exact aA hte),rfl,by simp only [aG,inL,inR,Bool.true_and,Bool.and_true];exact cH rfl,bQ (aA (hpt _))⟩
     ·have c1:decide (((i:Nat):Int)<((XE.length:Nat):Int))=false:=by simp;omega
      obtain rfl:i=es.length:=by omega
      rw [List.take_length] at hal
      repeat' (first|(refine u'S ?_;simp only [wS,simprocAttr,List.take_length,c1])|refine u'Q fun _ _=>?_|refine lM ?_|refine aR (fun hg=>?_) fun hg=>?_|fail)
      refine Cont.go (by assumption) ?_
      repeat' (first|(refine u'S ?_;simp only [wS,simprocAttr,List.take_length,c1])|refine u'Q fun _ _=>?_|refine lM ?_|refine aR (fun hg=>?_) fun hg=>?_|fail)
      refine Cont.go (by assumption) (eH (bN [3] (kp [0,1,2]) (l:=[(6,.ptr 1 0 0),(7,.ptr 2 0 0)]) (h:=[.cells 0 [.int .i64 k,.int .i64 n,.int .i64 m,.sl false XE],.cells 0 [.int .i64 0,.int .i64 0,.int .i64 0,.sl true []],.cells 0 [.int .i64 k,.int .i64 n',.int .i64 m,.sl false (es.map fun e=>T.enc (T.rput L nn e))]]) hG0 (fun r hr=>absurd hr (Nat.not_lt_zero r)) ?_ ?_ ?_) ?_)
      ·simp only [wS,simprocAttr,cS,Frz,and_true,true_or]
      ·rfl
      ·simp only [wS,simprocAttr,List.take_length]
       simp only [ToH,and_true]
       exact ⟨kr rfl (by simp only [aG,inL,inR,Bool.true_and,Bool.and_true];exact aA hte) (by simp),kr rfl rfl (by simp),.inr ⟨rfl,by simp only [aG,inL,inR,Bool.true_and,Bool.and_true];exact aA (hpt es),.inr ⟨.inl (by simp),.inr ⟨0,_,_,rfl,rfl,.inl rfl,.inl rfl,.inl rfl,.inr (fB (v:=es.length - 1) rfl (by simp) (hps es) (hpt es)),trivial⟩⟩⟩,rfl⟩
      repeat' (first|(refine u'S ?_;simp only [wS,simprocAttr])|refine u'Q fun _ _=>?_|refine aV ?_|refine aR (fun hg=>?_) fun hg=>?_|fail)
      exact bV (v:=.agg [.int .i64 k,.int .i64 n',.int .i64 m,.sl false (es.map fun e=>T.enc (T.rput L nn e))]) rfl u'p (by rw [AM.wk,how])
set_option maxHeartbeats 8000000 in
theorem CY (nm:ByteArray) (f p:T) (b:Int) (hf:T.size f≤100000000000) (hp:T.size p≤100000000000) (t:T) (ht:T.size t≤1000000000000):Pure Tryz.prog G0 43 [.agg (opE nm f p b),.agg (T.enc t)] (fJ (T.app nm f p b t)):=by
 have kv:=HU nm f p b (by omega) (by omega)
 have ho:=gI nm f p b
 have h2t:=T.enc_tree t
 have km:=JZ f t hf ht
 obtain ⟨res,hres⟩:∃ r,r=T.app nm f p b t:=⟨_,rfl⟩
 have hrt:=j4 res
 have hvs:fK nm f p b=true→T.size p≤32:=lL
 have hvh:=fun (hv:fK nm f p b=true) mp (hm:T.mat f t true []=(true,mp))=>HV hv hm
 have hg:=T.mat_good f t true [] ht (fun y hy=>(by cases hy))
 unfold T.app at hres
 rw [show T.app nm f p b t=res from hres.symm]
 generalize fK nm f p b=V at kv hres hvs hvh
 rcases hm:T.mat f t true [] with ⟨ok,mp⟩
 rw [hm] at km hg
 simp only at hg
 simp only [hm] at hres hvh
 cases V with
 |false=>
  simp only [Bool.false_eq_true,if_false] at hres
  obtain ⟨tk,tn,tm,TE,hte⟩:=aI t
  obtain ⟨fk,fn,fm,FE,hfe⟩:=aI f
  obtain ⟨pk,pn,pm,PE',hpe⟩:=aI p
  simp only [opE,hfe,hpe,hte,List.cons_append,List.nil_append] at ho h2t kv km ⊢
  refine aU hG0 Tryz.func43 rfl (by kernel_rfl) (by simp [Tryz.ntmps43]) (by simp only [inL,inR,Bool.true_and,Bool.and_true,Bool.and_eq_true] at ho h2t ⊢;exact ⟨ho,h2t⟩) (by exact hrt) ?_
  simp only [Tryz.ntmps43,aH,Nat.reduceAdd]
  repeat' (first|(refine u'S ?_;simp only [wS,simprocAttr,Bool.not_true,Bool.not_false])|refine u'Q fun _ _=>?_|refine aO ?_|refine aP (fun hg=>?_) fun hg=>?_|refine u'G ?_|fail)
  refine aX (v:=.agg [.int .i64 0,.int .i64 0,.int .i64 0,.sl true []]) rfl ?_ ?_
  ·simp only [wS,simprocAttr]
  ·simp only [wS,simprocAttr]
   rw [hres];rfl
 |true=>
  have hp32:=hvs rfl
  simp only [if_true] at hres
  cases ok with
  |false=>
   simp only [I6] at km
   obtain ⟨tk,tn,tm,TE,hte⟩:=aI t
   obtain ⟨fk,fn,fm,FE,hfe⟩:=aI f
   obtain ⟨pk,pn,pm,PE',hpe⟩:=aI p
   simp only [opE,hfe,hpe,hte,List.cons_append,List.nil_append] at ho h2t kv km ⊢
   refine aU hG0 Tryz.func43 rfl (by kernel_rfl) (by simp [Tryz.ntmps43]) (by simp only [inL,inR,Bool.true_and,Bool.and_true,Bool.and_eq_true] at ho h2t ⊢;exact ⟨ho,h2t⟩) (by exact hrt) ?_
   simp only [Tryz.ntmps43,aH,Nat.reduceAdd]
   repeat' (first|(refine u'S ?_;simp only [wS,simprocAttr,Bool.not_true,Bool.not_false])|refine u'Q fun _ _=>?_|refine aO ?_|refine aP (fun hg=>?_) fun hg=>?_|refine u'G ?_|fail)
   refine aX (v:=.agg [.int .i64 0,.int .i64 0,.int .i64 0,.sl true []]) rfl ?_ ?_
   ·simp only [wS,simprocAttr]
   ·simp only [wS,simprocAttr]
    rw [hres];rfl
  |true=>
   obtain ⟨hO,hh1,hh2⟩:=hvh rfl mp rfl
   replace hres:res=G7 (T.cmp (T.put mp t.num p) t) (T.put mp t.num p):=hres
   simp only [I6] at km
   have hps:T.size (T.put mp t.num p)≤T.size p*1000000000000:=T.put_size hg (by decide) _ _
   rw [T.put_rput t.num p hh1] at hres hps
   have kp:=PL (t5 mp (eN mp+1).toNat) t.num _ p (Nat.le_refl _) (by omega) (T.hok_mono (fun n h=>⟨h.1,by rw [D7];have:=hO.2.1;omega⟩) p hh2)
   generalize t5 mp (eN mp+1).toNat=L at km kp hres hps
   have ks:=FG (T.rput L t.num p) t (by omega)
   have htn:∀ (a b c:Int) (l:List (List AV)),T.enc t=[.int .i64 a,.int .i64 b,.int .i64 c,.sl false l]→t.num=b:=fun a b c l h=>by
    obtain ⟨k,n,m,es⟩:=t
    simp only [T.enc,List.cons.injEq,AV.int.injEq,true_and] at h
    exact h.2.1
   have hLt:=T.encs_tree L
   generalize T.cmp (T.rput L t.num p) t=cv at hres ks
   generalize hout:T.rput L t.num p=out at hres ks kp
   have hot:=T.wk_enc out
   have hott:=T.enc_tree out
   obtain ⟨tk,tn,tm,TE,hte⟩:=aI t
   rw [htn _ _ _ _ hte] at kp
   obtain ⟨fk,fn,fm,FE,hfe⟩:=aI f
   obtain ⟨pk,pn,pm,PE',hpe⟩:=aI p
   obtain ⟨oa,ob,oc,OE,hoe⟩:=aI out
   simp only [opE,hfe,hpe,hte,hoe,List.cons_append,List.nil_append] at ho h2t kv km kp ks hot hott ⊢
   generalize T.encs L=LE at km kp hLt
   refine aU hG0 Tryz.func43 rfl (by kernel_rfl) (by simp [Tryz.ntmps43]) (by simp only [inL,inR,Bool.true_and,Bool.and_true,Bool.and_eq_true] at ho h2t ⊢;exact ⟨ho,h2t⟩) (by exact hrt) ?_
   simp only [Tryz.ntmps43,aH,Nat.reduceAdd]
   repeat' (first|(refine u'S ?_;simp only [wS,simprocAttr,Bool.not_true,Bool.not_false])|refine u'Q fun _ _=>?_|refine aO ?_|refine aP (fun hg=>?_) fun hg=>?_|refine u'G ?_|refine bH hG0 (kp) (u'T ?_))
   ·rw [G7,if_pos (by simp_all)] at hres
    refine aX (v:=.agg [.int .i64 0,.int .i64 0,.int .i64 0,.sl true []]) rfl ?_ ?_
    ·simp only [wS,simprocAttr]
    ·simp only [wS,simprocAttr]
     rw [hres];rfl
   ·rw [G7,if_neg (by simp_all)] at hres
    refine aX (v:=.agg [.int .i64 oa,.int .i64 ob,.int .i64 oc,.sl false OE]) rfl ?_ ?_
    ·simp only [wS,simprocAttr]
    ·simp only [wS,simprocAttr]
     rw [hres]
     simp only [fJ,AM.wk,wkL,hoe] at hot ⊢
     simp only [List.cons.injEq,AV.sl.injEq,true_and,and_true] at hot
     rw [hot]
end Go.Proofs.YtggflhbigolakaaGreatDoor
