import Derived.Test.YtggflhbigolakaaGreatDoorHS
import Derived.Test.YtggflhbigolakaaGreatDoorVG
import Derived.Test.YtggflhbigolakaaGreatDoorVD
set_option linter.unusedVariables false
set_option linter.unusedSimpArgs false
namespace Go.Proofs.YtggflhbigolakaaGreatDoor
open Go.AM
attribute [local irreducible] AWp aY bC bI bU bW aN aS bL
set_option maxRecDepth 100000
set_option maxHeartbeats 8000000 in
theorem HU (nm:ByteArray) (f p:T) (b:Int) (hf:T.size f≤1000000000000) (hp:T.size p≤1000000000000):Pure Tryz.prog G0 77 [.agg (opE nm f p b)] (.bool (fK nm f p b)):=by
 have ho:=gI nm f p b
 have ksf:=CP _ f (Nat.le_refl _) hf
 have ksp:=CP _ p (Nat.le_refl _) hp
 have kdf:=yZ _ f (Nat.le_refl _) hf
 have kdp:=yZ _ p (Nat.le_refl _) hp
 have kff:=LG _ true false f (Nat.le_refl _) hf
 have kfp:=LG _ (decide (f.num= -100)) (decide (f.num= -100)) p (Nat.le_refl _) hp
 have knf:=nD _ f (Nat.le_refl _) hf
 have knp:=nD _ p (Nat.le_refl _) hp
 have hnl:=T.nums_len p
 have hnlf:=T.nums_len f
 have khs:=fun x:Int=>S2 (T.nums f) false x (by omega)
 obtain ⟨V,hV⟩:∃ V,V=fK nm f p b:=⟨_,rfl⟩
 rw [← hV]
 have htf:=T.enc_tree f
 have htp:=T.enc_tree p
 unfold fK tD FK at hV
 rw [T.visits_eq,J9] at hV
 have hfr:(f.num== -100)=decide (f.num= -100):=by by_cases h:f.num= -100<;>simp [h]
 change ∀ x:Int,Pure Tryz.prog G0 111 [.sl false (nE (T.nums f)),.int .i64 x] (.bool ((T.nums f).contains x)) at khs
 generalize hsf:T.size f=sf at ksf hV hf hnlf
 generalize hsp:T.size p=sp at ksp hV hp hnl
 generalize T.depth f=df at kdf hV
 generalize T.depth p=dp at kdp hV
 generalize T.nums f=NF at khs knf hnlf hV
 generalize T.nums p=NP at knp hnl hV
 generalize T.fine true false f=ff at kff hV
 generalize T.fine (decide (f.num= -100)) (decide (f.num= -100)) p=fp at kfp hV
 clear hsf hsp
 obtain ⟨fk,fn,fm,fs⟩:=f
 obtain ⟨pk,pn,pm,ps⟩:=p
 simp only [T.kind,T.num] at hV hfr kfp
 generalize decide (fn= -100)=fre at hfr kfp
 have hnt:=kH NP
 have hnft:=kH NF
 have hnln:=AG NP
 have hng:∀ (i:Nat) (z:Int),NP[i]? =some z→(nE NP)[i]? =some [.int .i64 z]:=fun i z h=>by rw [nE,List.getElem?_map,h];rfl
 refine aQ hG0 Tryz.func77 rfl (by kernel_rfl) (by simp [Tryz.ntmps77]) (by simp only [inL,inR,ho,Bool.and_self]) rfl ?_
 simp only [opE,T.enc,List.cons_append,List.nil_append] at ho ksf ksp kdf kdp kff kfp knf knp htf htp ⊢
 generalize T.encs fs=FE at ho ksf kdf htf kff knf ⊢
 generalize T.encs ps=PE' at ho ksp kdp htp kfp knp ⊢
 generalize nE NP=EP' at knp hnt hnln hng
 generalize nE NF=EF at khs knf hnft
 simp only [Tryz.ntmps77,aH,Nat.reduceAdd]
 obtain ⟨sm,hsm⟩:∃ sm:Nat→Bool,sm=fun i=>if i=0 then decide (sf≤32)&&decide (df≤8) else decide (sp≤32)&&decide (dp≤8):=⟨_,rfl⟩
 have sm0:sm 0=(decide (sf≤32)&&decide (df≤8)):=by rw [hsm];rfl
 have sm1:sm 1=(decide (sp≤32)&&decide (dp≤8)):=by rw [hsm];rfl
 rw [← sm0,← sm1] at hV
 by_cases hsz:1≤nm.size∧nm.size≤16∧ -1≤b∧b<24
 ·obtain ⟨hz1,hz2,hb1,hb2⟩:=hsz
  have d1:decide (((nm.size:Nat):Int)<1)=false:=decide_eq_false (by omega)
  have d2:decide (((nm.size:Nat):Int) > 16)=false:=decide_eq_false (by omega)
  have d3:decide (b< -1)=false:=decide_eq_false (by omega)
  have d4:decide (b > 23)=false:=decide_eq_false (by omega)
  rw [decide_eq_true (show 1≤nm.size∧nm.size≤16 from ⟨hz1,hz2⟩),Bool.true_and,decide_eq_true (show -1≤b∧b<24 from ⟨hb1,hb2⟩),Bool.true_and] at hV
  repeat' (first|(refine u'S ?_;simp only [wS,simprocAttr,d1,d2,d3,d4])|refine u'Q fun _ _=>?_|refine aV ?_|refine aR (fun hg=>?_) fun hg=>?_|fail)
  refine aJ (α:={i:Nat // i≤nm.size∧∀ j,j<i→mH nm j=true}) (fun i=>[(1,.ptr 0 0 0),(3,.int .i64 (i.1:Nat))]) (fun i=>[.cells 0 [.str nm,.int .i64 fk,.int .i64 fn,.int .i64 fm,.sl false FE,.int .i64 pk,.int .i64 pn,.int .i64 pm,.sl false PE',.int .i64 b]]) (fun i=>nm.size - i.1) ⟨0,Nat.zero_le _,fun j hj=>absurd hj (Nat.not_lt_zero j)⟩ (Weak.ref ⟨?_,.inl ?_⟩) ?_
  ·exact u'p
  ·exact u'p
  rintro ⟨i,hi,hall⟩ K1 hK1
  by_cases hlt:i<nm.size
  ·have hd:decide ((i:Int)<((nm.size:Nat):Int))=true:=by simp;omega
   obtain ⟨c,hc,hlc⟩:=BE (s:=nm) (i:=i) hlt
   have e1:=aL (k:=i) hlt (by omega)
   by_cases h1:97≤c.toNat∧c.toNat≤122
   ·have dx:decide (((c.toNat:Nat):Int)<97)=false:=decide_eq_false (by omega)
    have dy:decide (((c.toNat:Nat):Int) > 122)=false:=decide_eq_false (by omega)
    have hok:mH nm i=true:=by rw [hlc,lcI];exact decide_eq_true (by omega)
    repeat' (first|(refine u'S ?_;simp only [wS,simprocAttr,hd,hlt,hc,dx,dy,e1])|refine u'Q fun _ _=>?_|refine aV ?_|refine aR (fun hg=>?_) fun hg=>?_|fail)
    refine hK1.go ⟨i+1,hlt,fun j hj=>by rcases Nat.lt_succ_iff_lt_or_eq.1 hj with h|rfl;exact hall j h;exact hok⟩ (Weak.ref ⟨?_,.inr ⟨Nat.zero_le _,?_,fun g cs hg=>aD (hG0 g cs hg),?_,?_⟩⟩) (by simp only;omega)
    ·exact u'p
    ·exact u'p
    ·intro z hz
     simp only [List.mem_cons,List.not_mem_nil,or_false] at hz
     rcases hz with rfl|rfl<;>rfl
    ·simp only [List.all_cons,List.all_nil,Bool.and_true,aG];exact aD ho
   ·have hno:mH nm i=false:=by rw [hlc,lcI];exact decide_eq_false (by omega)
    have hf2:V=false:=by rw [hV,decide_eq_false (fun h=>by rw [h i hlt] at hno;cases hno)];rfl
    by_cases h2:c.toNat<97
    ·have dx:decide (((c.toNat:Nat):Int)<97)=true:=decide_eq_true (by omega)
     repeat' (first|(refine u'S ?_;simp only [wS,simprocAttr,hd,hlt,hc,dx])|refine u'Q fun _ _=>?_|refine aV ?_|refine aR (fun hg=>?_) fun hg=>?_|fail)
     refine aB rfl ?_
     simp only [wS,simprocAttr];exact congrArg AV.bool hf2.symm
    ·have dx:decide (((c.toNat:Nat):Int)<97)=false:=decide_eq_false (by omega)
     have dy:decide (((c.toNat:Nat):Int) > 122)=true:=decide_eq_true (by omega)
     repeat' (first|(refine u'S ?_;simp only [wS,simprocAttr,hd,hlt,hc,dx,dy])|refine u'Q fun _ _=>?_|refine aV ?_|refine aR (fun hg=>?_) fun hg=>?_|fail)
     refine aB rfl ?_
     simp only [wS,simprocAttr];exact congrArg AV.bool hf2.symm
  have hd:decide ((i:Int)<((nm.size:Nat):Int))=false:=by simp;omega
  obtain rfl:i=nm.size:=by omega
  rw [decide_eq_true hall,Bool.true_and] at hV
  obtain ⟨PG,hPG⟩:∃ x:List (List AV),x=[[.int .i64 fk,.int .i64 fn,.int .i64 fm,.sl false FE],[.int .i64 pk,.int .i64 pn,.int .i64 pm,.sl false PE']]:=⟨_,rfl⟩
  have hPl:PG.length=2:=by rw [hPG];rfl
  have hPt:inE aC PG=true:=by rw [hPG];simp only [inE,htf,htp,Bool.and_self]
  have hat:∀ i,i<2→∃ (x y:Nat) (k n m:Int) (E:List (List AV)),PG[i]? =some [.int .i64 k,.int .i64 n,.int .i64 m,.sl false E]∧Pure Tryz.prog G0 108 [.agg [.int .i64 k,.int .i64 n,.int .i64 m,.sl false E]] (.int .i64 (x:Nat))∧Pure Tryz.prog G0 109 [.agg [.int .i64 k,.int .i64 n,.int .i64 m,.sl false E]] (.int .i64 (y:Nat))∧sm i=(decide (x≤32)&&decide (y≤8))∧inE aC E=true:=fun i hi=>by
   have:i=0∨i=1:=by omega
   rw [hPG]
   rcases this with rfl|rfl
   ·exact ⟨sf,df,_,_,_,_,rfl,ksf,kdf,sm0,by simpa only [inL,inR,Bool.true_and,Bool.and_true] using htf⟩
   ·exact ⟨sp,dp,_,_,_,_,rfl,ksp,kdp,sm1,by simpa only [inL,inR,Bool.true_and,Bool.and_true] using htp⟩
  clear sm0 sm1 hsm ksf kdf ksp kdp
  repeat' (first|(refine u'S ?_;simp only [wS,simprocAttr,hd])|refine u'Q fun _ _=>?_|refine aV ?_|refine aR (fun hg=>?_) fun hg=>?_|fail)
  refine aJ (α:={i:Nat // i≤2∧∀ j,j<i→sm j=true}) (fun i=>[(1,.ptr 0 0 0),(4,.sl true PG),(5,.int .i64 (i.1:Nat))]) (fun i=>[.cells 0 [.str nm,.int .i64 fk,.int .i64 fn,.int .i64 fm,.sl false FE,.int .i64 pk,.int .i64 pn,.int .i64 pm,.sl false PE',.int .i64 b]]) (fun i=>2 - i.1) ⟨0,Nat.zero_le _,fun j hj=>absurd hj (Nat.not_lt_zero j)⟩ (Weak.ref ⟨?_,.inl ?_⟩) ?_
  ·simp only [wS,simprocAttr,hPG];try exact rfl
  ·exact u'p
  rintro ⟨i,hi,hsmall⟩ K1 hK1
  by_cases h2:i<2
  ·have hd:decide ((i:Int)<2)=true:=by simp;omega
   obtain ⟨x,y,k,n,m,E,hg1,kx,ky,hxy,hE⟩:=hat i h2
   have e1:=aL (k:=i) h2 (by decide)
   have hlt':i<PG.length:=by omega
   rw [Bool.eq_iff_iff] at hxy
   by_cases hx:x≤32
   ·have dx:decide (((x:Nat):Int) > 32)=false:=decide_eq_false (by omega)
    by_cases hy:y≤8
    ·have dy:decide (((y:Nat):Int) > 8)=false:=decide_eq_false (by omega)
     have hsi:sm i=true:=hxy.2 (by simp [hx,hy])
     repeat' (first|(refine u'S ?_;simp only [wS,simprocAttr,hg1,hlt',hd,dx,e1,dy])|refine u'Q fun _ _=>?_|refine aO ?_|refine aP (fun hg=>?_) fun hg=>?_|refine u'G ?_|fail)
     refine hK1.go ⟨i+1,h2,fun j hj=>by rcases Nat.lt_succ_iff_lt_or_eq.1 hj with h|rfl;exact hsmall j h;exact hsi⟩ (Weak.ref ⟨?_,.inr ⟨Nat.zero_le _,?_,fun g cs hg=>aD (hG0 g cs hg),?_,?_⟩⟩) (by simp only;omega)
     ·exact u'p
     ·exact u'p
     ·intro z hz
      simp only [List.mem_cons,List.not_mem_nil,or_false] at hz
      rcases hz with rfl|rfl|rfl<;>first|rfl|(simp only [inR];exact aA hPt)
     ·simp only [List.all_cons,List.all_nil,Bool.and_true,aG];exact aD ho
    ·have dy:decide (((y:Nat):Int) > 8)=true:=decide_eq_true (by omega)
     have hsi:sm i=false:=by by_cases h:sm i=true;exact absurd (by simpa [hx] using hxy.1 h) hy;simpa using h
     have hf2:V=false:=by rw [hV];have:i=0∨i=1:=(by omega);rcases this with rfl|rfl<;>simp [hsi]
     repeat' (first|(refine u'S ?_;simp only [wS,simprocAttr,hg1,hlt',hd,dx,e1,dy])|refine u'Q fun _ _=>?_|refine aO ?_|refine aP (fun hg=>?_) fun hg=>?_|refine u'G ?_|fail)
     refine aB rfl ?_
     simp only [wS,simprocAttr];exact congrArg AV.bool hf2.symm
   ·have dx:decide (((x:Nat):Int) > 32)=true:=decide_eq_true (by omega)
    have hsi:sm i=false:=by by_cases h:sm i=true;exact absurd (by simpa using (show x≤32∧y≤8 by simpa using hxy.1 h).1) hx;simpa using h
    have hf2:V=false:=by rw [hV];have:i=0∨i=1:=(by omega);rcases this with rfl|rfl<;>simp [hsi]
    have dy:True:=trivial
    repeat' (first|(refine u'S ?_;simp only [wS,simprocAttr,hg1,hlt',hd,dx,e1,dy])|refine u'Q fun _ _=>?_|refine aO ?_|refine aP (fun hg=>?_) fun hg=>?_|refine u'G ?_|fail)
    refine aB rfl ?_
    simp only [wS,simprocAttr];exact congrArg AV.bool hf2.symm
  have hd:decide ((i:Int)<2)=false:=by simp;omega
  obtain rfl:i=2:=by omega
  rw [hsmall 0 (by omega),hsmall 1 (by omega),Bool.true_and,Bool.true_and] at hV
  by_cases hkk:fk=28
  ·have hf2:V=false:=by rw [hV];simp [hkk]
   have dk:(fk==28)=true:=by simp [hkk]
   repeat' (first|(refine u'S ?_;simp only [wS,simprocAttr,hd,dk,hfr,Bool.not_true,Bool.not_false])|refine u'Q fun _ _=>?_|refine aO ?_|refine aP (fun hg=>?_) fun hg=>?_|refine u'G ?_|fail)
   refine aB rfl ?_
   simp only [wS,simprocAttr];exact congrArg AV.bool hf2.symm
  have dk:(fk==28)=false:=by simp [hkk]
  simp only [hkk,decide_false,Bool.not_false,Bool.true_and] at hV
  cases ff
  ·have hf2:V=false:=by rw [hV];rfl
   repeat' (first|(refine u'S ?_;simp only [wS,simprocAttr,hd,dk,hfr,Bool.not_true,Bool.not_false])|refine u'Q fun _ _=>?_|refine aO ?_|refine aP (fun hg=>?_) fun hg=>?_|refine u'G ?_|fail)
   refine aB rfl ?_
   simp only [wS,simprocAttr];exact congrArg AV.bool hf2.symm
  cases fp
  ·have hf2:V=false:=by rw [hV];simp
   repeat' (first|(refine u'S ?_;simp only [wS,simprocAttr,hd,dk,hfr,Bool.not_true,Bool.not_false])|refine u'Q fun _ _=>?_|refine aO ?_|refine aP (fun hg=>?_) fun hg=>?_|refine u'G ?_|fail)
   refine aB rfl ?_
   simp only [wS,simprocAttr];exact congrArg AV.bool hf2.symm
  rw [Bool.true_and,Bool.true_and] at hV
  repeat' (first|(refine u'S ?_;simp only [wS,simprocAttr,hd,dk,hfr,Bool.not_true,Bool.not_false])|refine u'Q fun _ _=>?_|refine aO ?_|refine aP (fun hg=>?_) fun hg=>?_|refine u'G ?_|fail)
  refine aJ (α:={i:Nat // i≤NP.length∧∀ z∈NP.take i,NF.contains z=true}) (fun i=>[(7,.sl false EF),(8,.sl false EP'),(9,.int .i64 (i.1:Nat))]) (fun i=>[]) (fun i=>NP.length - i.1) ⟨0,Nat.zero_le _,by simp⟩ (Weak.ref ⟨?_,.inr ⟨Nat.zero_le _,?_,fun g cs hg=>aD (hG0 g cs hg),?_,?_⟩⟩) ?_
  ·exact u'p
  ·exact u'p
  ·intro z hz
   simp only [List.mem_cons,List.not_mem_nil,or_false] at hz
   rcases hz with rfl|rfl|rfl<;>first|rfl|(simp only [inR];first|exact aA hnt|exact aA hnft)
  ·rfl
  rintro ⟨i,hi,hall⟩ K1 hK1
  by_cases hlt:i<NP.length
  ·have hd:decide ((i:Int)<((EP'.length:Nat):Int))=true:=by simp;omega
   have hlt':i<EP'.length:=by omega
   obtain ⟨z,hz⟩:∃ z,NP[i]? =some z:=⟨_,List.getElem?_eq_getElem hlt⟩
   have hg1:=hng i z hz
   have kh:=khs z
   have e1:=aL (k:=i) hlt (by omega)
   generalize hcz:NF.contains z=cz at kh
   cases cz
   ·have hf2:V=false:=by rw [hV];exact List.all_eq_false.2 ⟨z,List.mem_of_getElem? hz,by rw [hcz];simp⟩
    repeat' (first|(refine u'S ?_;simp only [wS,simprocAttr,hd,hg1,hlt',e1,Bool.not_true,Bool.not_false])|refine u'Q fun _ _=>?_|refine aO ?_|refine aP (fun hg=>?_) fun hg=>?_|refine u'G ?_|fail)
    refine aB rfl ?_
    simp only [wS,simprocAttr];exact congrArg AV.bool hf2.symm
   ·repeat' (first|(refine u'S ?_;simp only [wS,simprocAttr,hd,hg1,hlt',e1,Bool.not_true,Bool.not_false])|refine u'Q fun _ _=>?_|refine aO ?_|refine aP (fun hg=>?_) fun hg=>?_|refine u'G ?_|fail)
    refine hK1.go ⟨i+1,hlt,fun x hx=>by rw [List.take_add_one,hz] at hx;rcases List.mem_append.1 hx with h|h;exact hall x h;obtain rfl:x=z:=(by simpa using h);exact hcz⟩ (Weak.ref ⟨?_,.inr ⟨Nat.zero_le _,?_,fun g cs hg=>aD (hG0 g cs hg),?_,?_⟩⟩) (by simp only;omega)
    ·exact u'p
    ·exact u'p
    ·intro z hz
     simp only [List.mem_cons,List.not_mem_nil,or_false] at hz
     rcases hz with rfl|rfl|rfl<;>first|rfl|(simp only [inR];first|exact aA hnt|exact aA hnft)
    ·rfl
  ·have hd:decide ((i:Int)<((EP'.length:Nat):Int))=false:=by simp;omega
   obtain rfl:i=NP.length:=by omega
   rw [List.take_length] at hall
   have hf2:V=true:=by rw [hV];exact List.all_eq_true.2 hall
   repeat' (first|(refine u'S ?_;simp only [wS,simprocAttr,hd])|refine u'Q fun _ _=>?_|refine aV ?_|refine aR (fun hg=>?_) fun hg=>?_|fail)
   refine aB rfl ?_
   simp only [wS,simprocAttr];exact congrArg AV.bool hf2.symm
 ·have hf2:V=false:=by
   rw [hV]
   by_cases h1:1≤nm.size∧nm.size≤16
   ·have:¬ (-1≤b∧b<24):=fun h=>hsz ⟨h1.1,h1.2,h.1,h.2⟩
    rw [decide_eq_false this];simp
   ·rw [decide_eq_false h1];rfl
  clear khs ksf ksp kdf kdp kff kfp knf knp hV
  repeat' (first|(refine u'S ?_;simp only [wS,simprocAttr,Bool.not_true,Bool.not_false])|refine u'Q fun _ _=>?_|refine aO ?_|refine aP (fun hg=>?_) fun hg=>?_|fail)
  all_goals first
   |(refine aB rfl ?_;simp only [wS,simprocAttr];exact congrArg AV.bool hf2.symm)
   |(exfalso;refine hsz ⟨?_,?_,?_,?_⟩<;>(simp only [decide_eq_false_iff_not] at *;omega))
end Go.Proofs.YtggflhbigolakaaGreatDoor
