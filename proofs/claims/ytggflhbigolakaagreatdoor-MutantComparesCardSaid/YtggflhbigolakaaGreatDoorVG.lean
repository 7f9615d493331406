import Derived.Test.YtggflhbigolakaaGreatDoorVE
import Derived.Test.YtggflhbigolakaaGreatDoorVT
set_option linter.unusedVariables false
set_option linter.unusedSimpArgs false
namespace Go.Proofs.YtggflhbigolakaaGreatDoor
open Go.AM
attribute [local irreducible] AWp aY bC bI bU bW aN aS bL
set_option maxRecDepth 100000
def FK (s:ByteArray):Bool:=decide (1≤s.size∧s.size≤16)&&((sT s).toList==[])
def tD (t:T):Bool:=decide (T.size t≤32)&&decide (T.depth t≤8)
def fK (nm:ByteArray) (f p:T) (b:Int):Bool:=FK nm&&(decide (-1≤b∧b<24)&&(!decide (f.kind=28)&&(tD f&&(tD p&&T.visits f p))))
set_option maxHeartbeats 8000000 in
theorem M7 (nm:ByteArray) (f p:T) (b:Int) (hf:T.size f≤1000000000000) (hp:T.size p≤1000000000000):Pure Tryz.prog G0 59 [.agg (opE nm f p b)] (.bool (fK nm f p b)):=by
 have ho:=gI nm f p b
 have ksf:=xH _ f (Nat.le_refl _) hf
 have ksp:=xH _ p (Nat.le_refl _) hp
 have kdf:=vI _ f (Nat.le_refl _) hf
 have kdp:=vI _ p (Nat.le_refl _) hp
 have kv1:=GE ho (fc:=94) (caps:=[.ptr 3 0 0]) rfl (fun r=>r) false (fun t root s hl=>QD ho t root s hl) f hf (true,List.replicate 8 false) rfl
 have hl2:=T.vis_len (fun r=>r) false true f (true,List.replicate 8 false) rfl
 have kv2:=GE ho (fc:=95) (caps:=[.ptr 3 0 0,.ptr 0 0 0]) rfl (fun _=>decide (f.num= -100)) true (fun t root s hl=>RM t root s hl) p hp _ hl2
 have hvis:T.visits f p=(T.vis (fun _=>decide (f.num= -100)) true true p (T.vis (fun r=>r) false true f (true,List.replicate 8 false))).1:=rfl
 obtain ⟨V,hV⟩:∃ V,V=fK nm f p b:=⟨_,rfl⟩
 rw [← hV]
 have htf:=T.enc_tree f
 have htp:=T.enc_tree p
 generalize T.vis (fun _=>decide (f.num= -100)) true true p (T.vis (fun r=>r) false true f (true,List.replicate 8 false))=s2 at kv2 hvis
 generalize T.vis (fun r=>r) false true f (true,List.replicate 8 false)=s1 at kv1 kv2 hl2
 have hkd:f.kind=28↔(f.kind==28)=true:=by simp
 obtain ⟨sf,hsf⟩:∃ x,x=T.size f:=⟨_,rfl⟩
 obtain ⟨sp,hsp⟩:∃ x,x=T.size p:=⟨_,rfl⟩
 obtain ⟨df,hdf⟩:∃ x,x=T.depth f:=⟨_,rfl⟩
 obtain ⟨dp,hdp⟩:∃ x,x=T.depth p:=⟨_,rfl⟩
 unfold fK tD FK at hV
 rw [← hsf,← hsp,← hdf,← hdp,hvis] at hV
 rw [← hsf] at ksf
 rw [← hsp] at ksp
 rw [← hdf] at kdf
 rw [← hdp] at kdp
 clear hsf hsp hdf hdp hvis hl2
 obtain ⟨fk,fn,fm,fs⟩:=f
 obtain ⟨pk,pn,pm,ps⟩:=p
 simp only [T.kind] at hV hkd
 refine aQ hG0 Tryz.func59 rfl (by kernel_rfl) (by simp [Tryz.ntmps59]) (by simp only [inL,inR,ho,Bool.and_self]) rfl ?_
 simp only [opE,T.enc,List.cons_append,List.nil_append] at ho kv1 kv2 ksf ksp kdf kdp htf htp ⊢
 generalize T.encs fs=FE at ho kv1 kv2 ksf kdf htf ⊢
 generalize T.encs ps=PE' at ho kv1 kv2 ksp kdp htp ⊢
 simp only [Tryz.ntmps59,aH,Nat.reduceAdd]
 by_cases hsz:1≤nm.size∧nm.size≤16
 ·have ktr := P3 nm (by omega) (by omega)
  unfold azS at ktr
  have d1:decide (((nm.size:Nat):Int)<1)=false:=decide_eq_false (by omega)
  have d2:decide (((nm.size:Nat):Int) > 16)=false:=decide_eq_false (by omega)
  rw [decide_eq_true hsz,Bool.true_and] at hV
  generalize sT nm=tn at ktr hV
  generalize htn:(tn.toList==[])=ok at hV
  repeat' (first|(refine u'S ?_;simp only [wS,simprocAttr,d1,d2,vD,htn,Bool.not_true,Bool.not_false])|refine u'Q fun _ _=>?_|refine aO ?_|refine aP (fun hg=>?_) fun hg=>?_|refine u'G ?_|fail)
  iterate 4 (focus (refine aB rfl ?_;simp only [wS,simprocAttr];refine congrArg AV.bool ?_;rw [hV];first|(simp_all;done)|(simp_all<;>omega)))
  have hok:=‹(!ok)=false›
  have hb1:=‹decide (b< -1)=false›
  have hb2:=‹decide (b ≥ 24)=false›
  have hk28:=‹(fk==28)=false›
  obtain ⟨sm,hsm⟩:∃ sm:Nat→Bool,sm=fun i=>if i=0 then decide (sf≤32)&&decide (df≤8) else decide (sp≤32)&&decide (dp≤8):=⟨_,rfl⟩
  have sm0:sm 0=(decide (sf≤32)&&decide (df≤8)):=by rw [hsm];rfl
  have sm1:sm 1=(decide (sp≤32)&&decide (dp≤8)):=by rw [hsm];rfl
  have hV2:V=(sm 0&&(sm 1&&s2.1)):=by
   rw [hV,sm0,sm1]
   have:ok=true:=by simpa using hok
   have b1: -1≤b∧b<24:=by simp at hb1 hb2;omega
   have b2:fk≠28:=by simpa using hk28
   simp [this,b1,b2]
  obtain ⟨PG,hPG⟩:∃ x:List (List AV),x=[[.int .i64 fk,.int .i64 fn,.int .i64 fm,.sl false FE],[.int .i64 pk,.int .i64 pn,.int .i64 pm,.sl false PE']]:=⟨_,rfl⟩
  have hPl:PG.length=2:=by rw [hPG];rfl
  have hPt:inE aC PG=true:=by rw [hPG];simp only [inE,htf,htp,Bool.and_self]
  have hat:∀ i,i<2→∃ (x y:Nat) (k n m:Int) (E:List (List AV)),PG[i]? =some [.int .i64 k,.int .i64 n,.int .i64 m,.sl false E]∧Pure Tryz.prog G0 90 [.agg [.int .i64 k,.int .i64 n,.int .i64 m,.sl false E]] (.int .i64 (x:Nat))∧Pure Tryz.prog G0 91 [.agg [.int .i64 k,.int .i64 n,.int .i64 m,.sl false E]] (.int .i64 (y:Nat))∧sm i=(decide (x≤32)&&decide (y≤8))∧inE aC E=true:=fun i hi=>by
   have:i=0∨i=1:=by omega
   rw [hPG]
   rcases this with rfl|rfl
   ·exact ⟨sf,df,_,_,_,_,rfl,ksf,kdf,sm0,by simpa only [inL,inR,Bool.true_and,Bool.and_true] using htf⟩
   ·exact ⟨sp,dp,_,_,_,_,rfl,ksp,kdp,sm1,by simpa only [inL,inR,Bool.true_and,Bool.and_true] using htp⟩
  have w1:∀ i:Nat,i<2→IntKind.i64.wrap ((i:Int)+1)=((i+1:Nat):Int):=fun i hi=>aL hi (by decide)
  have hlt2:∀ i:Nat,decide ((i:Int)<2)=true→i<2:=fun i h=>by simp at h;omega
  clear sm0 sm1 hsm hV ktr ksf kdf ksp kdp
  refine aJ (α:={i:Nat // i≤2∧∀ j,j<i→sm j=true}) (fun i=>[(1,.ptr 0 0 0),(44,.sl true PG),(45,.int .i64 2),(46,.int .i64 (i.1:Nat))]) (fun i=>[.cells 0 [.str nm,.int .i64 fk,.int .i64 fn,.int .i64 fm,.sl false FE,.int .i64 pk,.int .i64 pn,.int .i64 pm,.sl false PE',.int .i64 b]]) (fun i=>2 - i.1) ⟨0,Nat.zero_le _,fun j hj=>absurd hj (Nat.not_lt_zero j)⟩ (Weak.ref ⟨?_,.inl ?_⟩) ?_
  ·simp only [wS,simprocAttr,hPG];try exact rfl
  ·exact u'p
  ·rintro ⟨i,hi,hsmall⟩ K1 hK1
   by_cases h2:i<2
   ·have hd:decide ((i:Int)<2)=true:=by simp;omega
    obtain ⟨x,y,k,n,m,E,hg1,kx,ky,hxy,hE⟩:=hat i h2
    have e1:=w1 i h2
    have hlt':i<PG.length:=by omega
    rw [Bool.eq_iff_iff] at hxy
    by_cases hx:x≤32
    ·have dx:decide (((x:Nat):Int) > 32)=false:=decide_eq_false (by omega)
     by_cases hy:y≤8
     ·have dy:decide (((y:Nat):Int) > 8)=false:=decide_eq_false (by omega)
      have hsi:sm i=true:=hxy.2 (by simp [hx,hy])
      repeat' (first|(refine u'S ?_;simp only [wS,simprocAttr,hg1,hlt',hd,dx,e1,dy])|refine u'Q fun _ _=>?_|refine aO ?_|refine aP (fun hg=>?_) fun hg=>?_|refine u'G ?_|fail)
      refine hK1.go ⟨i+1,h2,fun j hj=>by rcases Nat.lt_succ_iff_lt_or_eq.1 hj with h|rfl;exact hsmall j h;exact hsi⟩ (Weak.ref ⟨?_,.inr ⟨Nat.zero_le _,?_,fun g cs hg=>aD (hG0 g cs hg),?_,?_⟩⟩) (by simp only;omega)
      ·exact u'p
      ·exact u'p
      ·intro z hz
       simp only [List.mem_cons,List.not_mem_nil,or_false] at hz
       rcases hz with rfl|rfl|rfl|rfl<;>first|rfl|(simp only [inR];exact aA hPt)
      ·simp only [List.all_cons,List.all_nil,Bool.and_true,aG];exact aD ho
     ·have dy:decide (((y:Nat):Int) > 8)=true:=decide_eq_true (by omega)
      have hsi:sm i=false:=by by_cases h:sm i=true;exact absurd (by simpa [hx] using hxy.1 h) hy;simpa using h
      have hf2:V=false:=by rw [hV2];have:i=0∨i=1:=(by omega);rcases this with rfl|rfl<;>simp [hsi]
      repeat' (first|(refine u'S ?_;simp only [wS,simprocAttr,hg1,hlt',hd,dx,e1,dy])|refine u'Q fun _ _=>?_|refine aO ?_|refine aP (fun hg=>?_) fun hg=>?_|refine u'G ?_|fail)
      refine aB rfl ?_
      simp only [wS,simprocAttr];exact congrArg AV.bool hf2.symm
    ·have dx:decide (((x:Nat):Int) > 32)=true:=decide_eq_true (by omega)
     have hsi:sm i=false:=by by_cases h:sm i=true;exact absurd (by simpa using (show x≤32∧y≤8 by simpa using hxy.1 h).1) hx;simpa using h
     have hf2:V=false:=by rw [hV2];have:i=0∨i=1:=(by omega);rcases this with rfl|rfl<;>simp [hsi]
     have dy:True:=trivial
     repeat' (first|(refine u'S ?_;simp only [wS,simprocAttr,hg1,hlt',hd,dx,e1,dy])|refine u'Q fun _ _=>?_|refine aO ?_|refine aP (fun hg=>?_) fun hg=>?_|refine u'G ?_|fail)
     refine aB rfl ?_
     simp only [wS,simprocAttr];exact congrArg AV.bool hf2.symm
   ·have hd:decide ((i:Int)<2)=false:=by simp;omega
    obtain rfl:i=2:=by omega
    have hf2:V=s2.1:=by rw [hV2,hsmall 0 (by omega),hsmall 1 (by omega)];rfl
    have hr8:(List.replicate 8 false).map AV.bool=[.bool false,.bool false,.bool false,.bool false,.bool false,.bool false,.bool false,.bool false]:=rfl
    repeat' (first|(refine u'S ?_;simp only [wS,simprocAttr,hd])|refine u'Q fun _ _=>?_|refine aV ?_|refine aR (fun hg=>?_) fun hg=>?_|fail)
    refine mR kv1 ⟨by simp only [wS,simprocAttr];try exact rfl,by simp only [wS,simprocAttr];try exact rfl,by simp only [wS,simprocAttr];try exact rfl,by simp only [wS,simprocAttr];try exact rfl⟩ ?_
    simp only [wS,simprocAttr]
    repeat' (first|(refine u'S ?_;simp only [wS,simprocAttr])|refine u'Q fun _ _=>?_|refine aV ?_|refine aR (fun hg=>?_) fun hg=>?_|fail)
    refine mR kv2 ⟨by simp only [wS,simprocAttr];try exact rfl,by simp only [wS,simprocAttr];try exact rfl,by simp only [wS,simprocAttr];try exact rfl,by simp only [wS,simprocAttr];try exact rfl⟩ ?_
    simp only [wS,simprocAttr,okR]
    repeat' (first|(refine u'S ?_;simp only [wS,simprocAttr])|refine u'Q fun _ _=>?_|refine aV ?_|refine aR (fun hg=>?_) fun hg=>?_|fail)
    refine aB rfl ?_
    simp only [wS,simprocAttr];exact congrArg AV.bool hf2.symm
 ·have hf2:V=false:=by rw [hV];simp [hsz]
  have hc:nm.size<1∨(¬ nm.size<1∧nm.size > 16):=by omega
  clear kv1 kv2 ksf ksp kdf kdp
  rcases hc with h1|⟨h1,h2⟩
  ·have d1:decide (((nm.size:Nat):Int)<1)=true:=decide_eq_true (by omega)
   have d2:True:=trivial
   repeat' (first|(refine u'S ?_;simp only [wS,simprocAttr,d1,d2,Bool.not_true,Bool.not_false])|refine u'Q fun _ _=>?_|refine aO ?_|refine aP (fun hg=>?_) fun hg=>?_|fail)
   refine aB rfl ?_
   simp only [wS,simprocAttr];exact congrArg AV.bool hf2.symm
  ·have d1:decide (((nm.size:Nat):Int)<1)=false:=decide_eq_false (by omega)
   have d2:decide (((nm.size:Nat):Int) > 16)=true:=decide_eq_true (by omega)
   repeat' (first|(refine u'S ?_;simp only [wS,simprocAttr,d1,d2,Bool.not_true,Bool.not_false])|refine u'Q fun _ _=>?_|refine aO ?_|refine aP (fun hg=>?_) fun hg=>?_|fail)
   refine aB rfl ?_
   simp only [wS,simprocAttr];exact congrArg AV.bool hf2.symm
end Go.Proofs.YtggflhbigolakaaGreatDoor
