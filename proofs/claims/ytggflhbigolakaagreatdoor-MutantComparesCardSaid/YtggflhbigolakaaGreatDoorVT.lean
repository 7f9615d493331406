import Derived.Test.YtggflhbigolakaaGreatDoorT0
import Derived.Test.YtggflhbigolakaaGreatDoorVA
set_option linter.unusedVariables false
set_option linter.unusedSimpArgs false
namespace Go.Proofs.YtggflhbigolakaaGreatDoor
open Go.AM
attribute [local irreducible] AWp aY bC bI bU bW aN aS bL
set_option maxRecDepth 100000
def asC:List AV:=(List.range 256).map fun (i:Nat)=>AV.bool (lcI (i:Int))
def azS:ByteArray:=⟨#[97,98,99,100,101,102,103,104,105,106,107,108,109,110,111,112,113,114,115,116,117,118,119,120,121,122]⟩
theorem BL:asC.length=256:=by simp [asC]
theorem p8:inL aC asC=true:=by kernel_rfl
theorem QM {c:Nat} (h:c<256):asC.drop c=.bool (lcI c)::asC.drop (c+1):=by
 rw [List.drop_eq_getElem_cons (by rw [BL];exact h)]
 simp [asC]
theorem iM {rows:Nat→ARow} {fp:List Nat}:∀ {l:List AV},inL aC l=true→LendL rows fp l l
 | [],_=>.nil
 |a::l,h=>by
  simp only [inL,Bool.and_eq_true] at h
  exact .cons (.same h.1) (iM h.2)
theorem RB:Pure Tryz.prog G0 116 [.str azS] (.tup [.agg asC,.bool true]):=kF 200 60 _ [] D9 hG0 (by kernel_rfl) (by kernel_rfl) (by kernel_rfl)
theorem vL (c:Nat) (h:c<256):Pure Tryz.prog G0 128 [.imm asC,.int .u8 c] (.bool (lcI c)):=by
 have hat:=QM h
 have hl:=BL
 have ht:=p8
 generalize asC=A at hat hl ht
 have h1:c+1≤256:=h
 have hm:c*1=c:=Nat.mul_one c
 refine aQ hG0 Tryz.func128 rfl (by kernel_rfl) (by simp [Tryz.ntmps128]) (by simp only [inL,inR,ht,Bool.and_self]) rfl ?_
 simp only [Tryz.ntmps128,aH,Nat.reduceAdd]
 repeat' (first|(refine u'S ?_;simp only [wS,simprocAttr,hat,hl,h,h1,hm])|refine u'Q fun _ _=>?_|refine aV ?_|refine aR (fun hg=>?_) fun hg=>?_|fail)
 refine aB rfl ?_
 simp only [wS,simprocAttr]
set_option maxHeartbeats 4000000 in
theorem MZ (s:ByteArray) (hs:s.size≤1000000):Pure Tryz.prog G0 118 [.str s,.imm asC] (.str (s.extract 0 (trj s s.size))):=by
 have hcc:=vL
 have ht:=p8
 generalize asC=A at hcc ht
 refine aQ hG0 Tryz.func118 rfl (by kernel_rfl) (by simp [Tryz.ntmps118]) (by simp only [inL,inR,ht,Bool.and_self]) rfl ?_
 simp only [Tryz.ntmps118,aH,Nat.reduceAdd]
 repeat' (first|(refine u'S ?_;simp only [wS,simprocAttr])|refine u'Q fun _ _=>?_|refine aV ?_|refine aR (fun hg=>?_) fun hg=>?_|fail)
 refine aJ (α:={j:Nat // j≤s.size∧trj s j=trj s s.size}) (fun j=>[(0,.str (s.extract 0 j.1)),(1,.imm A)]) (fun j=>[]) (fun j=>j.1) ⟨s.size,Nat.le_refl _,rfl⟩ (Weak.ref ⟨?_,.inl ?_⟩) ?_
 ·simp only [wS,simprocAttr,ByteArray.extract_zero_size];try exact rfl
 ·exact u'p
 ·rintro ⟨j,hj,hjt⟩ K1 hK1
  have hsz:(s.extract 0 j).size=j:=by rw [ByteArray.size_extract];omega
  cases j with
  |zero=>
   repeat' (first|(refine u'S ?_;simp only [wS,simprocAttr,hsz])|refine u'Q fun _ _=>?_|refine aV ?_|refine aR (fun hg=>?_) fun hg=>?_|fail)
   refine aB rfl ?_
   simp only [wS,simprocAttr]
   rw [← hjt]
   rfl
  |succ q=>
   have hpos:decide (((q+1:Nat):Int) > 0)=true:=by simp only [decide_eq_true_eq];omega
   have e1:IntKind.i64.wrap (((q+1:Nat):Int) - 1)=(q:Nat):=by rw [cB (by omega) (by omega)];omega
   obtain ⟨b,hb,hlb⟩:=BE (s:=s) (i:=q) (by omega)
   have hx:(s.extract 0 (q+1))[q]? =some b:=by rw [oM hj (by omega),Nat.zero_add];exact hb
   have hkc:=hcc b.toNat b.toNat_lt
   have hex:(s.extract 0 (q+1)).extract 0 q=s.extract 0 q:=by
    rw [ByteArray.extract_extract];congr 1<;>omega
   have hq1:(q≤q+1)=True:=eq_true (by omega)
   have hq0:(0:Int)≤(q:Nat):=by omega
   rw [trj] at hjt
   generalize hsq:s.extract 0 (q+1)=sq at hsz hx hex
   cases hlc:mH s q with
   |true=>
    rw [hlb] at hlc
    rw [hlb,hlc,if_pos rfl] at hjt
    rw [hlc] at hkc
    repeat' (first|(refine u'S ?_;simp only [wS,simprocAttr,hsz,hpos,e1,hx])|refine u'Q fun _ _=>?_|refine aV ?_|refine aR (fun hg=>?_) fun hg=>?_|fail)
    refine bH hG0 hkc ?_
    simp only [wS,simprocAttr,Bool.not_true]
    repeat' (first|(refine u'S ?_;simp only [wS,simprocAttr,hsz,e1,hex,hq1,Bool.not_true])|refine u'Q fun _ _=>?_|refine aV ?_|refine aR (fun hg=>?_) fun hg=>?_|fail)
    refine hK1.go ⟨q,by omega,hjt⟩ (Weak.ref ⟨?_,.inl ?_⟩) (by simp only;omega)
    ·exact u'p
    ·exact u'p
   |false=>
    rw [hlb] at hlc
    rw [hlb,hlc,if_neg (by decide)] at hjt
    rw [hlc] at hkc
    repeat' (first|(refine u'S ?_;simp only [wS,simprocAttr,hsz,hpos,e1,hx])|refine u'Q fun _ _=>?_|refine aV ?_|refine aR (fun hg=>?_) fun hg=>?_|fail)
    refine bH hG0 hkc ?_
    simp only [wS,simprocAttr,Bool.not_false]
    repeat' (first|(refine u'S ?_;simp only [wS,simprocAttr,Bool.not_false])|refine u'Q fun _ _=>?_|refine aV ?_|refine aR (fun hg=>?_) fun hg=>?_|fail)
    refine aB rfl ?_
    simp only [wS,simprocAttr]
    rw [← hjt,hsq]
set_option maxHeartbeats 4000000 in
theorem Q6 (s:ByteArray) (hs:s.size≤1000000):Pure Tryz.prog G0 117 [.str s,.imm asC] (.str (s.extract (trl s s.size) s.size)):=by
 have hcc:=vL
 have ht:=p8
 generalize asC=A at hcc ht
 refine aQ hG0 Tryz.func117 rfl (by kernel_rfl) (by simp [Tryz.ntmps117]) (by simp only [inL,inR,ht,Bool.and_self]) rfl ?_
 simp only [Tryz.ntmps117,aH,Nat.reduceAdd]
 repeat' (first|(refine u'S ?_;simp only [wS,simprocAttr])|refine u'Q fun _ _=>?_|refine aV ?_|refine aR (fun hg=>?_) fun hg=>?_|fail)
 refine aJ (α:={j:Nat // j≤s.size∧trl s j=trl s s.size}) (fun j=>[(0,.str (s.extract (s.size - j.1) s.size)),(1,.imm A)]) (fun j=>[]) (fun j=>j.1) ⟨s.size,Nat.le_refl _,rfl⟩ (Weak.ref ⟨?_,.inl ?_⟩) ?_
 ·simp only [wS,simprocAttr,Nat.sub_self,ByteArray.extract_zero_size];try exact rfl
 ·exact u'p
 ·rintro ⟨j,hj,hjt⟩ K1 hK1
  have hsz:(s.extract (s.size - j) s.size).size=j:=by rw [ByteArray.size_extract];omega
  cases j with
  |zero=>
   rw [Nat.sub_zero] at hsz
   repeat' (first|(refine u'S ?_;simp only [wS,simprocAttr,hsz])|refine u'Q fun _ _=>?_|refine aV ?_|refine aR (fun hg=>?_) fun hg=>?_|fail)
   refine aB rfl ?_
   simp only [wS,simprocAttr]
   rw [← hjt]
   rfl
  |succ q=>
   have hpos:decide (((q+1:Nat):Int) > 0)=true:=by simp only [decide_eq_true_eq];omega
   obtain ⟨b,hb,hlb⟩:=BE (s:=s) (i:=s.size - (q+1)) (by omega)
   have hx:(s.extract (s.size - (q+1)) s.size)[0]? =some b:=by rw [oM (Nat.le_refl _) (by omega),Nat.add_zero];exact hb
   have hkc:=hcc b.toNat b.toNat_lt
   have hex:(s.extract (s.size - (q+1)) s.size).extract 1 (q+1)=s.extract (s.size - q) s.size:=by
    rw [ByteArray.extract_extract];congr 1<;>omega
   have hq1:(1≤q+1)=True:=eq_true (by omega)
   rw [trl] at hjt
   generalize hsq:s.extract (s.size - (q+1)) s.size=sq at hsz hx hex
   cases hlc:mH s (s.size - (q+1)) with
   |true=>
    rw [hlc,if_pos rfl] at hjt
    rw [hlb] at hlc
    rw [hlc] at hkc
    repeat' (first|(refine u'S ?_;simp only [wS,simprocAttr,hsz,hpos,hx])|refine u'Q fun _ _=>?_|refine aV ?_|refine aR (fun hg=>?_) fun hg=>?_|fail)
    refine bH hG0 hkc ?_
    simp only [wS,simprocAttr,Bool.not_true]
    repeat' (first|(refine u'S ?_;simp only [wS,simprocAttr,hsz,hex,hq1,Nat.le_refl,if_true,Bool.not_true])|refine u'Q fun _ _=>?_|refine aV ?_|refine aR (fun hg=>?_) fun hg=>?_|fail)
    refine hK1.go ⟨q,by omega,hjt⟩ (Weak.ref ⟨?_,.inl ?_⟩) (by simp only;omega)
    ·exact u'p
    ·exact u'p
   |false=>
    rw [hlc,if_neg (by decide)] at hjt
    rw [hlb] at hlc
    rw [hlc] at hkc
    repeat' (first|(refine u'S ?_;simp only [wS,simprocAttr,hsz,hpos,hx])|refine u'Q fun _ _=>?_|refine aV ?_|refine aR (fun hg=>?_) fun hg=>?_|fail)
    refine bH hG0 hkc ?_
    simp only [wS,simprocAttr,Bool.not_false]
    repeat' (first|(refine u'S ?_;simp only [wS,simprocAttr,Bool.not_false])|refine u'Q fun _ _=>?_|refine aV ?_|refine aR (fun hg=>?_) fun hg=>?_|fail)
    refine aB rfl ?_
    simp only [wS,simprocAttr]
    rw [← hjt,hsq]
theorem vD:(ByteArray.mk #[]).toList=[]:=by kernel_rfl
theorem P3 (s:ByteArray) (hs:s.size≤1000000) (h0:s.size≠0):Pure Tryz.prog G0 89 [.str s,.str azS] (.str (sT s)):=by
 have hm:=RB
 have hr:=MZ s hs
 have hl:=Q6 (s.extract 0 (trj s s.size)) (by rw [ByteArray.size_extract];omega)
 have hn:(s.toList==[])=false:=by rw [sW];simp [h0]
 have hz:(azS.toList==[])=false:=by kernel_rfl
 have hz2:azS.size=26:=by kernel_rfl
 have hal:=BL
 have hat:=p8
 generalize asC=A at hm hr hl hal hat
 generalize azS=Z at hm hz hz2
 unfold sT
 generalize s.extract 0 (trj s s.size)=s1 at hr hl
 refine aQ hG0 Tryz.func89 rfl (by kernel_rfl) (by simp [Tryz.ntmps89]) rfl rfl ?_
 simp only [Tryz.ntmps89,aH,Nat.reduceAdd]
 have hlen:A.length=256:=hal
 repeat' (first|(refine u'S ?_;simp only [wS,simprocAttr,vD,hn,hz,hz2])|refine u'Q fun _ _=>?_|refine aV ?_|refine aR (fun hg=>?_) fun hg=>?_|fail)
 refine bH hG0 hm ?_
 simp only [wS,simprocAttr,hal]
 repeat' (first|(refine u'S ?_;simp only [wS,simprocAttr,hal])|refine u'Q fun _ _=>?_|refine aV ?_|refine aR (fun hg=>?_) fun hg=>?_|fail)
 refine vO (fp:=[0]) hG0 hr (.cons (.same rfl) (.cons (.ptr (cs:=A) (by simp) u'q (iM hat)) .nil)) (.inr rfl) ?_
 simp only [wS,simprocAttr]
 repeat' (first|(refine u'S ?_;simp only [wS,simprocAttr])|refine u'Q fun _ _=>?_|refine aV ?_|refine aR (fun hg=>?_) fun hg=>?_|fail)
 refine vO (fp:=[0]) hG0 hl (.cons (.same rfl) (.cons (.ptr (cs:=A) (by simp) u'q (iM hat)) .nil)) (.inr rfl) ?_
 simp only [wS,simprocAttr]
 repeat' (first|(refine u'S ?_;simp only [wS,simprocAttr])|refine u'Q fun _ _=>?_|refine aV ?_|refine aR (fun hg=>?_) fun hg=>?_|fail)
 exact aB rfl u'q
end Go.Proofs.YtggflhbigolakaaGreatDoor
