import Derived.Test.YtggflhbigolakaaGreatDoorHP
import Derived.Test.YtggflhbigolakaaGreatDoorT0
import Derived.Test.YtggflhbigolakaaGreatDoorVD
import Derived.Test.YtggflhbigolakaaGreatDoorVG
set_option linter.unusedVariables false
set_option linter.unusedSimpArgs false
namespace Go.Proofs.YtggflhbigolakaaGreatDoor
open Go.AM
attribute [local irreducible] AWp aY bC bI bU bW aN aS bL
set_option maxRecDepth 100000
theorem L5 (z:Int):Pure Tryz.prog G0 81 [.int .i64 z] (.agg (T.enc (.mk 28 z 0 []))):=by
 refine aU hG0 Tryz.func81 rfl (by kernel_rfl) (by simp [Tryz.ntmps81]) (by simp only [inL,inR,Bool.and_self]) (by simp only [inR];exact T.enc_tree _) ?_
 simp only [Tryz.ntmps81,aH,Nat.reduceAdd]
 repeat' (first|(refine u'S ?_;simp only [wS,simprocAttr])|refine u'Q fun _ _=>?_|refine aV ?_|refine aR (fun hg=>?_) fun hg=>?_|fail)
 exact bV (v:=.agg [.int .i64 28,.int .i64 z,.int .i64 0,.sl true []]) rfl u'p rfl
namespace T
def nx (at0:Int) (i:Nat):Int:=IntKind.i64.wrap (IntKind.i64.wrap (IntKind.i64.wrap (3*at0)+(i:Int))+1)
mutual
def pat (A:Int→Int) (H:Int) (kn:List Int):Int→T→T
 |at0,mk k n m es=>if (decide (at0 > 0)&&decide (A at0<H))=true then mk 28 (if kn=[] then (A at0).tmod 3 else kn.getD ((A at0).tmod kn.length).toNat 0) 0 [] else mk k n m (pats A H kn at0 0 es)
def pats (A:Int→Int) (H:Int) (kn:List Int):Int→Nat→List T→List T
 |_,_,[]=>[]
 |at0,i,e::es=>pat A H kn (nx at0 i) e::pats A H kn at0 (i+1) es
end
theorem pats_take {A:Int→Int} {H:Int} {kn:List Int} {at0:Int} {e:T}:∀ {es:List T} {i j:Nat},es[i]? =some e→pats A H kn at0 j (es.take (i+1))=pats A H kn at0 j (es.take i)++[pat A H kn (nx at0 (j+i)) e]
 | [],_,_,h=>by simp at h
 |x::es,0,j,h=>by
  obtain rfl:x=e:=by simpa using h
  simp [pats]
 |x::es,i+1,j,h=>by
  have:=pats_take (A:=A) (H:=H) (kn:=kn) (at0:=at0) (e:=e) (es:=es) (i:=i) (j:=j+1) (by simpa using h)
  rw [List.take_succ_cons,List.take_succ_cons,pats,pats,this,List.cons_append]
  rw [show j+1+i=j+(i+1) by omega]
theorem pats_len {A:Int→Int} {H:Int} {kn:List Int} {at0:Int}:∀ (es:List T) (j:Nat),(pats A H kn at0 j es).length=es.length
 | [],_=>by simp [pats]
 |x::es,j=>by rw [pats,List.length_cons,pats_len es,List.length_cons]
mutual
theorem size_pat {A:Int→Int} {H:Int} {kn:List Int}:∀ (t:T) (at0:Int),size (pat A H kn at0 t)≤size t
 |mk k n m es,at0=>by
  rw [pat]
  split
  ·simp only [size,sizes];omega
  ·have:=tE (A:=A) (H:=H) (kn:=kn) es at0 0
   simp only [size];omega
theorem tE {A:Int→Int} {H:Int} {kn:List Int}:∀ (es:List T) (at0:Int) (i:Nat),sizes (pats A H kn at0 i es)≤sizes es
 | [],_,_=>by simp [pats]
 |e::es,at0,i=>by
  have:=size_pat (A:=A) (H:=H) (kn:=kn) e (nx at0 i)
  have:=tE (A:=A) (H:=H) (kn:=kn) es at0 (i+1)
  simp only [pats,sizes];omega
end
theorem encs_app:∀ a b:List T,encs (a++b)=encs a++encs b
 | [],_=>rfl
 |x::a,b=>by rw [List.cons_append,encs,encs,encs_app a b,List.cons_append]
end T
set_option maxHeartbeats 8000000 in
theorem xP (L:List Int) (hL:∀ x∈L,cI x) (H:Int) (kn:List Int) (b:Bool) (hkn:kn.length≤1000000000000):∀ (N:Nat) (t:T) (at0:Int),T.size t≤N→N≤1000000000000→Pure Tryz.prog G0 105 [.agg (T.enc t),b9 L,.int .i64 at0,.int .i64 H,.sl b (nE kn)] (.agg (T.enc (T.pat (fun i=>atS L i 8) H kn at0 t))):=by
 intro N
 induction N with
 |zero=>intro t _ h;have:=T.size_pos t;omega
 |succ N ih=>
  intro t at0 ht hN
  obtain ⟨A,hA⟩:∃ A:Int→Int,A=fun i=>atS L i 8:=⟨_,rfl⟩
  rw [← hA] at ih ⊢
  have kA:=rP L at0 8 hL (by decide)
  have hA8:=HO L at0 8 (by decide)
  rw [show atS L at0 8=A at0 by rw [hA]] at kA hA8
  clear hA
  obtain ⟨k,n,m,es⟩:=t
  have ih2:∀ e∈es,∀ a1,Pure Tryz.prog G0 105 [.agg (T.enc e),b9 L,.int .i64 a1,.int .i64 H,.sl b (nE kn)] (.agg (T.enc (T.pat A H kn a1 e))):=fun e he a1=>ih e a1 (by have:=T.size_mem he;simp only [T.size] at ht;omega) (by omega)
  clear ih
  have htr:=T.enc_tree (.mk k n m es)
  have hls:=T.len_sizes es
  have hLt:inE aC (L.map fun n=>[AV.int .i64 n])=true:=aW L
  simp only [b9] at ih2 kA ⊢
  generalize (L.map fun n=>[AV.int .i64 n])=LE at ih2 kA hLt
  simp only [T.size] at ht
  have hkt:=kH kn
  have hkl:=AG kn
  have hkg:∀ (i:Nat) (z:Int),kn[i]? =some z→(nE kn)[i]? =some [.int .i64 z]:=fun i z h=>by rw [nE,List.getElem?_map,h];rfl
  have hto:=T.enc_tree (T.pat A H kn at0 (.mk k n m es))
  generalize nE kn=KE at ih2 hkt hkl hkg
  obtain ⟨R,hR⟩:∃ R,R=T.pat A H kn at0 (.mk k n m es):=⟨_,rfl⟩
  rw [← hR] at hto ⊢
  rw [T.pat] at hR
  refine aU hG0 Tryz.func105 rfl (by kernel_rfl) (by simp [Tryz.ntmps105]) (by simp only [inL,inR,htr,hLt,hkt,Bool.and_self]) (by simp only [inR];exact hto) ?_
  simp only [Tryz.ntmps105,aH,Nat.reduceAdd,T.enc]
  have hgt:=fun (i:Nat) (e:T)=>T.encs_get (es:=es) (i:=i) (e:=e)
  have hln:=T.encs_len es
  have hte:=T.encs_tree es
  generalize T.encs es=EE at hgt hln hte
  by_cases hh:(decide (at0 > 0)&&decide (A at0<H))=true
  ·rw [if_pos hh] at hR
   rw [Bool.and_eq_true] at hh
   obtain ⟨g1,g2⟩:=hh
   by_cases hk:kn=[]
   ·have gk:decide (((KE.length:Nat):Int) > 0)=false:=decide_eq_false (by rw [hkl,hk];simp)
    rw [if_pos hk] at hR
    have kh:=L5 ((A at0).tmod 3)
    rw [← hR] at kh
    have hwk:=T.wk_enc R
    have hq0:True:=trivial
    have hq1:True:=trivial
    have hq2:True:=trivial
    obtain ⟨ra,rb,rc,rd,hre⟩:=aI R
    rw [hre] at kh hwk ⊢
    repeat' (first|(refine u'S ?_;simp only [wS,simprocAttr,g1,g2,gk,hq0,hq1,hq2])|refine u'Q fun _ _=>?_|refine aO ?_|refine aP (fun hg=>?_) fun hg=>?_|refine u'G ?_|fail)
    exact bV (v:=.agg [.int .i64 ra,.int .i64 rb,.int .i64 rc,.sl false rd]) rfl u'p (by rw [AM.wk,hwk])
   ·have hkp:0<kn.length:=List.length_pos_iff.2 hk
    have gk:decide (((KE.length:Nat):Int) > 0)=true:=decide_eq_true (by omega)
    rw [if_neg hk] at hR
    have hb1:=Int.tmod_nonneg (kn.length:Int) hA8.1
    have hb2:=Int.tmod_lt_of_pos (A at0) (show (0:Int)<(kn.length:Int) by omega)
    obtain ⟨q,hq⟩:∃ q:Nat,(A at0).tmod (kn.length:Int)=(q:Nat):=⟨((A at0).tmod (kn.length:Int)).toNat,by omega⟩
    rw [hq] at hR hb2
    have hq1:q<KE.length:=by omega
    obtain ⟨z,hz⟩:∃ z,kn[q]? =some z:=⟨_,List.getElem?_eq_getElem (by omega)⟩
    have hq2:=hkg q z hz
    have kh:=L5 z
    rw [Int.toNat_natCast,List.getD_eq_getElem?_getD,hz,Option.getD_some] at hR
    rw [← hR] at kh
    rw [← hkl] at hq
    have hwk:=T.wk_enc R
    have hq0:¬ (((KE.length:Nat):Int)=0):=by omega
    obtain ⟨ra,rb,rc,rd,hre⟩:=aI R
    rw [hre] at kh hwk ⊢
    repeat' (first|(refine u'S ?_;simp only [wS,simprocAttr,hq,g1,g2,gk,hq0,hq1,hq2])|refine u'Q fun _ _=>?_|refine aO ?_|refine aP (fun hg=>?_) fun hg=>?_|refine u'G ?_|fail)
    exact bV (v:=.agg [.int .i64 ra,.int .i64 rb,.int .i64 rc,.sl false rd]) rfl u'p (by rw [AM.wk,hwk])
  ·rw [if_neg hh] at hR
   have hwk:=T.wk_enc R
   have hE4:∀ l:List T,∀ e∈T.encs l,e.length=4:=fun l e he=>by
    rw [T.encs_map] at he
    obtain ⟨y,_,rfl⟩:=List.mem_map.1 he
    exact T.enc_len y
   have hEt:=fun l:List T=>T.encs_tree l
   have hRe:T.enc R=[.int .i64 k,.int .i64 n,.int .i64 m,.sl false (T.encs (T.pats A H kn at0 0 es))]:=by rw [hR];rfl
   rw [hRe] at hwk ⊢
   have hc:(decide (at0 > 0)=false∧True)∨(decide (at0 > 0)=true∧decide (A at0<H)=false):=by
    cases h1:decide (at0 > 0) with
    |false=>exact .inl ⟨rfl,trivial⟩
    |true=>rw [h1,Bool.true_and] at hh;exact .inr ⟨rfl,by simpa using hh⟩
   rcases hc with ⟨g1,g2⟩|⟨g1,g2⟩
   all_goals
    repeat' (first|(refine u'S ?_;simp only [wS,simprocAttr,g1,g2])|refine u'Q fun _ _=>?_|refine aO ?_|refine aP (fun hg=>?_) fun hg=>?_|refine u'G ?_|fail)
    refine aJ (α:={i:Nat // i≤es.length}) (fun i=>[(1,.sl false LE),(2,.int .i64 at0),(3,.int .i64 H),(4,.sl b KE),(5,.ptr 0 0 0),(10,.ptr 1 0 0),(12,.ptr 2 0 0),(13,.int .i64 (i.1:Nat))]) (fun i=>[.cells 0 [.int .i64 k,.int .i64 n,.int .i64 m,.sl false EE],.cells 0 [.int .i64 0,.int .i64 0,.int .i64 0,.sl true []],.cells 0 [.int .i64 k,.int .i64 n,.int .i64 m,rv 3 (i.1 - 1) 4 (T.encs (T.pats A H kn at0 0 (es.take i.1)))],rvR (i.1 - 1) (T.encs (T.pats A H kn at0 0 (es.take i.1)))]) (fun i=>es.length - i.1) ⟨0,Nat.zero_le _⟩ (bN [] (kp [0,1,2,3]) hG0 (fun r hr=>absurd hr (Nat.not_lt_zero r)) ?_ ?_ ?_) ?_
    ·simp only [wS,simprocAttr,cS,Frz,and_true,true_or]
    ·simp only [List.all_cons,List.all_nil,Bool.and_true,Bool.and_eq_true,inR,aA hLt,aA hkt,true_and];try exact ⟨rfl,rfl,rfl⟩
    ·simp only [wS,simprocAttr,List.take_zero,T.pats,T.encs,dS,dM]
     simp only [ToH,and_true]
     exact ⟨.inr ⟨rfl,by simp only [aG,inL,inR,aA hte,Bool.and_self],.inr ⟨.inl (by simp),.inl rfl⟩⟩,.inr ⟨rfl,rfl,.inr ⟨.inl (by simp),.inl rfl⟩⟩,.inr ⟨rfl,rfl,.inr ⟨.inl (by simp),.inr ⟨0,_,_,rfl,rfl,.inl rfl,.inl rfl,.inl rfl,.inr .toRsv,trivial⟩⟩⟩⟩
    rintro ⟨i,hi⟩ K3 hK3
    try simp only at hi
    have hal:(T.encs (T.pats A H kn at0 0 (es.take i))).length=i:=by rw [T.encs_len,T.pats_len,List.length_take];omega
    repeat' (first|(refine u'S ?_;simp only [wS,simprocAttr,↓aM,↓aF])|refine u'Q fun _ _=>?_|refine aV ?_|refine aR (fun hg=>?_) fun hg=>?_|fail)
    refine ⟨fun h=>?_,fun h=>?_⟩
    ·have hlt:i<es.length:=by simpa [hln] using h
     have hltE:i<EE.length:=by omega
     obtain ⟨e,he⟩:∃ e,es[i]? =some e:=⟨_,List.getElem?_eq_getElem hlt⟩
     have hg:=hgt i e he
     have hce:=ih2 e (List.mem_of_getElem? he) (T.nx at0 i)
     have htk:T.encs (T.pats A H kn at0 0 (es.take (i+1)))=T.encs (T.pats A H kn at0 0 (es.take i))++[T.enc (T.pat A H kn (T.nx at0 i) e)]:=by
      rw [T.pats_take he,T.encs_app,Nat.zero_add];rfl
     have e3:=aL (k:=i) hlt (by omega)
     have hge:decide (((i:Nat):Int) ≥ ((EE.length:Nat):Int))=false:=by simp;omega
     have hps':=hE4 (T.pats A H kn at0 0 (es.take i))
     have hpn:=hEt (T.pats A H kn at0 0 (es.take (i+1)))
     obtain ⟨ea,eb,ec,ed,hee⟩:=aI e
     obtain ⟨pa,pb,pc,pd,hpp⟩:=aI (T.pat A H kn (T.nx at0 i) e)
     rw [hee] at hg hce
     rw [hpp] at hce htk
     unfold T.nx at hce
     have hvv:i=if T.encs (T.pats A H kn at0 0 (es.take i))=[] then 0 else i - 1+1:=by
      by_cases h0:T.encs (T.pats A H kn at0 0 (es.take i))=[]
      ·rw [if_pos h0];rw [h0] at hal;simpa using hal.symm
      ·rw [if_neg h0]
       have:i≠0:=fun hz=>h0 (by rw [hz];rfl)
       omega
     repeat' (first|(refine u'S ?_;simp only [wS,simprocAttr,hg,hltE,hlt,hge,↓aM,↓aF])|refine u'Q fun _ _=>?_|refine aV ?_|refine aR (fun hg=>?_) fun hg=>?_|fail)
     refine bH hG0 hce ?_
     simp only [wS,simprocAttr,↓aM,↓aF]
     refine b8 (v':=i) (es:=[[.int .i64 pa,.int .i64 pb,.int .i64 pc,.sl false pd]]) (by':=48) (by kernel_rfl) u'p hvv hps' (by simp [cJ]) (by simp) (by rw [hal];simp only [List.length_singleton];omega) ?_
     simp only [wS,simprocAttr,↓aM,↓aF]
     repeat' (first|(refine u'S ?_;simp only [wS,simprocAttr,e3,↓aM,↓aF])|refine u'Q fun _ _=>?_|refine aV ?_|refine aR (fun hg=>?_) fun hg=>?_|fail)
     try refine ⟨by kernel_rfl,?_⟩
     repeat' (first|(refine u'S ?_;simp only [wS,simprocAttr,e3,↓aM,↓aF])|refine u'Q fun _ _=>?_|refine aV ?_|refine aR (fun hg=>?_) fun hg=>?_|fail)
     refine hK3.go ⟨i+1,hlt⟩ (Weak.ref ⟨?_,.inr ⟨Nat.zero_le _,?_,fun g cs hg=>aD (hG0 g cs hg),?_,?_⟩⟩) (by simp only;omega)
     ·exact u'p
     ·simp only [wS,simprocAttr,Nat.add_sub_cancel,htk];try exact rfl
     ·simp only [List.mem_cons,List.not_mem_nil,or_false,forall_eq_or_imp,forall_eq,inR]
      simp only [aA hLt,aA hkt,true_and,and_true,Bool.true_and]
      trivial
     ·simp only [List.all_cons,List.all_nil,Bool.and_true,Bool.and_eq_true]
      exact ⟨by simp only [aG,inL,inR,aA hte,Bool.and_self],rfl,by simp only [aG,inL,inR,Bool.true_and,Bool.and_true];exact cH rfl,bQ (aA (hEt _))⟩
    ·have hge:i=es.length:=by simp [hln] at h;omega
     subst hge
     rw [List.take_length] at hal
     repeat' (first|(refine u'S ?_;simp only [wS,simprocAttr,List.take_length])|refine u'Q fun _ _=>?_|refine lM ?_|refine aR (fun hg=>?_) fun hg=>?_|fail)
     refine Cont.go (by assumption) (eH (bN [3] (kp [0,1,2]) (l:=[(5,.ptr 0 0 0),(10,.ptr 1 0 0),(12,.ptr 2 0 0)]) (h:=[.cells 0 [.int .i64 k,.int .i64 n,.int .i64 m,.sl false EE],.cells 0 [.int .i64 0,.int .i64 0,.int .i64 0,.sl true []],.cells 0 [.int .i64 k,.int .i64 n,.int .i64 m,.sl false (T.encs (T.pats A H kn at0 0 es))]]) hG0 (fun r hr=>absurd hr (Nat.not_lt_zero r)) ?_ ?_ ?_) ?_)
     ·simp only [wS,simprocAttr,cS,Frz,and_true,true_or]
     ·rfl
     ·simp only [wS,simprocAttr,List.take_length]
      simp only [ToH,and_true]
      exact ⟨.inr ⟨rfl,by simp only [aG,inL,inR,aA hte,Bool.and_self],.inr ⟨.inl (by simp),.inl rfl⟩⟩,.inr ⟨rfl,rfl,.inr ⟨.inl (by simp),.inl rfl⟩⟩,.inr ⟨rfl,by simp only [aG,inL,inR,Bool.true_and,Bool.and_true];exact aA (hEt _),.inr ⟨.inl (by simp),.inr ⟨0,_,_,rfl,rfl,.inl rfl,.inl rfl,.inl rfl,.inr (fB (v:=es.length - 1) rfl (by simp) (hE4 _) (hEt _)),trivial⟩⟩⟩,rfl⟩
     repeat' (first|(refine u'S ?_;simp only [wS,simprocAttr])|refine u'Q fun _ _=>?_|refine aV ?_|refine aR (fun hg=>?_) fun hg=>?_|fail)
     exact bV (v:=.agg [.int .i64 k,.int .i64 n,.int .i64 m,.sl false (T.encs (T.pats A H kn at0 0 es))]) rfl u'p (by rw [AM.wk,hwk])
theorem GD:∀ a b:List AV,AM.wkL (a++b)=AM.wkL a++AM.wkL b
 | [],_=>by simp [AM.wkL]
 |x::a,b=>by simp only [List.cons_append,AM.wkL,GD a b]
theorem KG (nm:ByteArray) (f p:T) (b:Int):AM.wk (.agg (opE nm f p b))=.agg (opE nm f p b):=by
 simp only [AM.wk,opE,AM.wkL,GD,T.wk_enc]
def OpV (B:Nat) (v:AV):Prop:=∃ nm f p b,v=.agg (opE nm f p b)∧T.size f≤B∧T.size p≤B
theorem OpV.tree {B:Nat} {v:AV} (h:OpV B v):inR aC v=true:=by
 obtain ⟨nm,f,p,b,rfl,_⟩:=h
 simp only [inR]
 exact gI nm f p b
def CS (t:T):T:=.mk t.kind (-100) t.low t.kids
theorem xI (t:T):T.size (CS t)=T.size t:=by cases t;rfl
set_option maxHeartbeats 16000000 in
theorem Q3 (L:List Int) (hL:∀ x∈L,cI x) (t s:T) (ht:T.size t≤16000000000) (hs:T.size s≤16000000000):EP Tryz.prog G0 72 [.agg (T.enc t),.agg (T.enc s),b9 L] (OpV 16000000000):=by
 have htt:=T.enc_tree t
 have hst:=T.enc_tree s
 have k0:=xP L hL 5 [] true (by simp) _ t 0 (Nat.le_refl _) (by omega)
 have hF:=T.size_pat (A:=fun i=>atS L i 8) (H:=5) (kn:=[]) t 0
 generalize T.pat (fun i=>atS L i 8) 5 [] 0 t=F at k0 hF
 have kn0:=nD _ F (Nat.le_refl _) (by omega)
 have kn1:=nD _ (CS F) (Nat.le_refl _) (by rw [xI];omega)
 have hn0:=T.nums_len F
 have hn1:=T.nums_len (CS F)
 rw [xI] at hn1
 have k1:=fun kn (h:kn.length≤1000000000000)=>xP L hL 4 kn false h _ s 1 (Nat.le_refl _) (by omega)
 have k10:=k1 (T.nums F) (by omega)
 have k11:=k1 (T.nums (CS F)) (by omega)
 clear k1
 have hP0:=T.size_pat (A:=fun i=>atS L i 8) (H:=4) (kn:=T.nums F) s 1
 have hP1:=T.size_pat (A:=fun i=>atS L i 8) (H:=4) (kn:=T.nums (CS F)) s 1
 generalize T.pat (fun i=>atS L i 8) 4 (T.nums F) 1 s=P0 at k10 hP0
 generalize T.pat (fun i=>atS L i 8) 4 (T.nums (CS F)) 1 s=P1 at k11 hP1
 generalize nE (T.nums F)=N0 at kn0 k10
 generalize nE (T.nums (CS F))=N1 at kn1 k11
 have a7:=rP L 7 4 hL (by decide)
 have a8:=rP L 8 2 hL (by decide)
 have a9:=rP L 9 3 hL (by decide)
 have a10:=rP L 10 25 hL (by decide)
 have h9:=HO L 9 3 (by decide)
 generalize atS L 7 4=z7 at a7
 generalize atS L 8 2=z8 at a8
 generalize atS L 10 25=z10 at a10
 obtain ⟨i9,hi9⟩:∃ i:Nat,atS L 9 3=(i:Nat):=⟨(atS L 9 3).toNat,by omega⟩
 rw [hi9] at a9 h9
 have hi3:i9<3:=by omega
 obtain ⟨nm,hnm⟩:∃ nm,([[AV.str ⟨#[109,97,100,101]⟩],[AV.str ⟨#[120]⟩],[AV.str ⟨#[115,119,97,112]⟩]]:List (List AV))[i9]? =some [.str nm]:=by
  have:i9=0∨i9=1∨i9=2:=by omega
  rcases this with rfl|rfl|rfl<;>exact ⟨_,rfl⟩
 have hLt:inE aC (L.map fun n=>[AV.int .i64 n])=true:=aW L
 simp only [b9,nE,List.map_nil] at k0 k10 k11 a7 a8 a9 a10 ⊢
 generalize (L.map fun n=>[AV.int .i64 n])=LE at k0 k10 k11 a7 a8 a9 a10 hLt
 obtain ⟨tk,tn,tm,ts⟩:=t
 obtain ⟨sk,sn,sm,ss⟩:=s
 obtain ⟨fk,fn,fm,fs⟩:=F
 obtain ⟨pk,pn,pm,ps⟩:=P0
 obtain ⟨qk,qn,qm,qs⟩:=P1
 simp only [CS,T.kind,T.num,T.low,T.kids,T.enc] at k0 kn0 kn1 k10 k11 htt hst ⊢
 simp only [T.size] at ht hs hF hP0 hP1
 refine oK hG0 Tryz.func72 rfl (by kernel_rfl) (by simp [Tryz.ntmps72]) (by simp only [inL,inR,Bool.and_true,Bool.true_and] at htt hst ⊢;simp only [htt,hst,hLt,Bool.and_self]) (fun _ h=>h.tree) ?_
 simp only [Tryz.ntmps72,aH,Nat.reduceAdd]
 have e100:((-100:Int)== -100)=true:=rfl
 repeat' (first|(refine u'S ?_;simp only [wS,simprocAttr,hnm,hi3,e100])|refine v'Q fun _ _=>?_|refine bB ?_|refine aZ (fun hg=>?_) fun hg=>?_|refine f5 hG0 k0 (u'T ?_)|refine f5 hG0 kn0 (u'T ?_)|refine f5 hG0 kn1 (u'T ?_)|refine f5 hG0 k10 (u'T ?_)|refine f5 hG0 k11 (u'T ?_)|refine f5 hG0 a7 (u'T ?_)|refine f5 hG0 a8 (u'T ?_)|refine f5 hG0 a9 (u'T ?_)|refine f5 hG0 a10 (u'T ?_)|with_reducible refine cV (by kernel_rfl) ?_|refine bD (fun _=>?_) (fun _=>?_))
 all_goals (refine pS (v:=?_) rfl ?_ ?_;rotate_left;focus (simp only [wS,simprocAttr];exact rfl))
 all_goals first
  |exact ⟨_,⟨nm,.mk _ _ _ fs,.mk _ _ _ ss,_,KG nm (.mk _ _ _ fs) (.mk _ _ _ ss) _,by simp only [T.size];omega,by simp only [T.size];omega⟩,rfl⟩
  |exact ⟨_,⟨nm,.mk _ _ _ fs,.mk _ _ _ ps,_,KG nm (.mk _ _ _ fs) (.mk _ _ _ ps) _,by simp only [T.size];omega,by simp only [T.size];omega⟩,rfl⟩
  |exact ⟨_,⟨nm,.mk _ _ _ fs,.mk _ _ _ qs,_,KG nm (.mk _ _ _ fs) (.mk _ _ _ qs) _,by simp only [T.size];omega,by simp only [T.size];omega⟩,rfl⟩
end Go.Proofs.YtggflhbigolakaaGreatDoor
