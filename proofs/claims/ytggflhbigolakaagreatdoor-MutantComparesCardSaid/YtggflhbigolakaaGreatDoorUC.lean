import Derived.Test.YtggflhbigolakaaGreatDoorUA
import Derived.Test.YtggflhbigolakaaGreatDoorXD
set_option linter.unusedVariables false
set_option linter.unusedSimpArgs false
namespace Go.Proofs.YtggflhbigolakaaGreatDoor
open Go.AM
attribute [local irreducible] AWp aY bC bI bU bW aN aS bL
structure TO {α:Type} (c: α→α→Int):Prop where
 anti:∀ x y,c y x= -c x y
 trans:∀ x y z,c x y≤0→c y z≤0→c x z≤0
theorem TO.lt1 {α:Type} {c: α→α→Int} (h:TO c) {x y z: α} (h1:c x y<0) (h2:c y z≤0):c x z<0:=by
 have:=h.trans x y z (by omega) h2
 have a:=h.anti x z
 have b:=h.anti y z
 have d:=h.anti x y
 have e:=h.trans y z x h2
 omega
theorem TO.lt2 {α:Type} {c: α→α→Int} (h:TO c) {x y z: α} (h1:c x y≤0) (h2:c y z<0):c x z<0:=by
 have:=h.trans x y z h1 (by omega)
 have a:=h.anti x z
 have b:=h.anti y z
 have d:=h.anti x y
 have e:=h.trans z x y
 omega
theorem TO.eq {α:Type} {c: α→α→Int} (h:TO c) {x y z: α} (h1:c x y=0) (h2:c y z=0):c x z=0:=by
 have:=h.trans x y z (by omega) (by omega)
 have a:=h.anti x z
 have b:=h.anti y z
 have d:=h.anti x y
 have e:=h.trans z y x (by omega) (by omega)
 omega
def two (a b:Int):Int:=if a≠0 then a else b
theorem UI {a b:Int}:two a b≤0↔(a<0∨(a=0∧b≤0)):=by
 unfold two;split<;>omega
theorem TO.pair {α β:Type} {c: α→α→Int} {d: β→β→Int} (h:TO c) (g:TO d):TO (fun a b: α × β=>two (c a.1 b.1) (d a.2 b.2)):=by
 refine ⟨fun x y=>?_,fun x y z h1 h2=>?_⟩
 ·have:=h.anti x.1 y.1
  have:=g.anti x.2 y.2
  simp only [two]
  split<;>split<;>omega
 ·simp only [UI] at h1 h2 ⊢
  rcases h1 with h1|⟨h1,k1⟩
  ·exact .inl (h.lt1 h1 (by omega))
  ·rcases h2 with h2|⟨h2,k2⟩
   ·exact .inl (h.lt2 (by omega) h2)
   ·exact .inr ⟨h.eq h1 h2,g.trans _ _ _ k1 k2⟩
theorem TO.comap {α β:Type} {c: α→α→Int} (h:TO c) (f: β→α):TO (fun x y=>c (f x) (f y)):=⟨fun x y=>h.anti _ _,fun x y z=>h.trans _ _ _⟩
def TM {α:Type} (c: α→α→Int):List α→List α→Int
 | [],[]=>0
 | [],_::_=> -1
 |_::_,[]=>1
 |x::a,y::b=>two (c x y) (TM c a b)
theorem TO.lex {α:Type} {c: α→α→Int} (h:TO c):TO (TM c):=by
 refine ⟨fun a=>?_,fun a=>?_⟩
 ·induction a with
  |nil=>intro b;cases b<;>rfl
  |cons x a ih=>
   intro b
   cases b with
   |nil=>rfl
   |cons y b=>
    have:=h.anti x y
    have:=ih b
    simp only [TM,two]
    split<;>split<;>omega
 ·induction a with
  |nil=>intro b d h1 h2;cases b<;>cases d<;>simp [TM] at*
  |cons x a ih=>
   intro b d h1 h2
   cases b with
   |nil=>simp [TM] at h1
   |cons y b=>
    cases d with
    |nil=>simp [TM] at h2
    |cons z d=>
     simp only [TM,UI] at h1 h2 ⊢
     rcases h1 with h1|⟨h1,k1⟩
     ·exact .inl (h.lt1 h1 (by omega))
     ·rcases h2 with h2|⟨h2,k2⟩
      ·exact .inl (h.lt2 (by omega) h2)
      ·exact .inr ⟨h.eq h1 h2,ih _ _ k1 k2⟩
theorem U6:TO cW:=⟨fun x y=>by unfold cW;split<;>split<;>(try split)<;>omega,fun x y z h1 h2=>by unfold cW at *;split<;>split at h1<;>split at h2<;>(try split)<;>(try split at h1)<;>(try split at h2)<;>omega⟩
theorem UM:∀ a b:List Int,fE a b=TM cW a b
 | [],[]=>rfl
 | [],_::_=>rfl
 |_::_,[]=>rfl
 |x::a,y::b=>by rw [fE,TM,two,UM a b]
theorem UJ:TO gV:=by
 have:gV=fun a b:Si=>two (TM cW a.1 b.1) (cW a.2 b.2):=by
  funext a b
  rw [gV,two,UM]
 rw [this]
 exact U6.lex.pair U6
def U4 (a b:List Si):Int:=two (cW a.length b.length) (TM gV a b)
theorem V7:TO U4:=(U6.pair UJ.lex).comap fun a:List Si=>((a.length:Int),a)
set_option maxRecDepth 100000
theorem U9 {α:Type} {M:List α} {i:Nat} {s: α} (h:M[i]? =some s):M.drop i=s::M.drop (i+1):=by
 obtain ⟨q1,q2⟩:=List.getElem?_eq_some_iff.1 h
 rw [List.drop_eq_getElem_cons q1,q2]
theorem TX {α:Type} {c: α→α→Int} (h:∀ x,c x x=0):∀ a:List α,TM c a a=0
 | []=>rfl
 |x::a=>by rw [TM,two,h x,TX h a];rfl
theorem U3 (x:Si):gV x x=0:=by
 have:=UJ.anti x x
 omega
theorem UE (A:List Si):U4 A A=0:=by
 rw [U4,two,qR,TX U3];rfl
set_option maxHeartbeats 8000000 in
theorem UT (A B:List Si) (hA:A.length≤1000000000000000) (hp:∀ s∈A,s.1.length≤1000000000000000):Pure Tryz.prog G0 18 [mV A,mV B] (.int .i64 (U4 A B)):=by
 have hat:=cK A
 have hbt:=cK B
 have hal:=gQ A
 have hbl:=gQ B
 have hga:=fun (i:Nat) (s:Si)=>jG (M:=A) (i:=i) (s:=s)
 have hgb:=fun (i:Nat) (s:Si)=>jG (M:=B) (i:=i) (s:=s)
 obtain ⟨V,hV⟩:∃ v,v=U4 A B:=⟨_,rfl⟩
 rw [← hV]
 rw [U4,two] at hV
 simp only [mV]
 generalize mC A=AC at hat hal hga ⊢
 generalize mC B=BC at hbt hbl hgb ⊢
 refine aQ hG0 Tryz.func18 rfl (by kernel_rfl) (by simp [Tryz.ntmps18]) (by simp only [inL,inR,hat,hbt,Bool.and_self]) (by simp [inR]) ?_
 simp only [Tryz.ntmps18,aH,Nat.reduceAdd]
 by_cases hl:A.length=B.length
 ·have c0:(((AC.length:Nat):Int) != ((BC.length:Nat):Int))=false:=by simp;omega
  rw [hl,qR,if_neg (by simp)] at hV
  repeat' (first|(refine u'S ?_;simp only [wS,simprocAttr,c0])|refine u'Q fun _ _=>?_|refine aO ?_|refine aP (fun hg=>?_) fun hg=>?_|fail)
  refine aJ (α:={i:Nat // i≤A.length∧V=TM gV (A.drop i) (B.drop i)}) (fun i=>[(2,.ptr 0 0 0),(3,.ptr 1 0 0),(4,.int .i64 0),(5,.int .i64 (i.1:Nat))]) (fun _=>[.cells 0 [.sl false AC],.cells 0 [.sl false BC]]) (fun i=>A.length - i.1) ⟨0,Nat.zero_le _,hV⟩ (Weak.ref ⟨?_,.inl ?_⟩) ?_
  ·exact u'p
  ·exact u'p
  ·rintro ⟨i,hi,hinv⟩ K hK
   try simp only at hi hinv
   by_cases hlt:i<A.length
   ·have c1:decide (((i:Nat):Int)<((AC.length:Nat):Int))=true:=by simp;omega
    have e3:=aL (k:=i) hlt (by omega)
    obtain ⟨x,hx⟩:∃ x,A[i]? =some x:=⟨_,List.getElem?_eq_getElem hlt⟩
    obtain ⟨y,hy⟩:∃ y,B[i]? =some y:=⟨_,List.getElem?_eq_getElem (by omega)⟩
    have gx:=hga i x hx
    have gy:=hgb i y hy
    have hA1:i<AC.length:=by omega
    have hB1:i<BC.length:=by omega
    have kc:=GP x y (hp x (List.mem_of_getElem? hx))
    rw [U9 hx,U9 hy,TM,two] at hinv
    generalize gV x y=cv at kc hinv
    by_cases hz:cv=0
    ·subst hz
     rw [if_neg (by simp)] at hinv
     have c2:((0:Int) != 0)=false:=rfl
     repeat' (first|(refine u'S ?_;simp only [wS,simprocAttr,gx,gy,hA1,hB1,c1,c2,e3,Bool.not_true,Bool.not_false])|refine u'Q fun _ _=>?_|refine aO ?_|refine aP (fun hg=>?_) fun hg=>?_|refine u'G ?_|fail)
     refine hK.go ⟨i+1,hlt,hinv⟩ (Weak.ref ⟨?_,.inr ⟨by first|exact Nat.zero_le _|exact Nat.le_refl _|simp,?_,fun g cs hg=>aD (hG0 g cs hg),?_,?_⟩⟩) (by simp only;omega)
     ·exact u'p
     ·exact u'p
     ·intro z hz
      simp only [List.mem_cons,List.not_mem_nil,or_false] at hz
      rcases hz with rfl|rfl|rfl|rfl<;>first|rfl|rfl
     ·simp only [List.all_cons,List.all_nil,Bool.and_true,Bool.and_eq_true];try exact ⟨aD (by simp only [inL,inR,hat,Bool.and_self]),aD (by simp only [inL,inR,hbt,Bool.and_self])⟩
    ·rw [if_pos hz] at hinv
     have c2:(cv != 0)=true:=by simp [hz]
     repeat' (first|(refine u'S ?_;simp only [wS,simprocAttr,gx,gy,hA1,hB1,c1,c2,e3,Bool.not_true,Bool.not_false])|refine u'Q fun _ _=>?_|refine aO ?_|refine aP (fun hg=>?_) fun hg=>?_|refine u'G ?_|fail)
     refine aB rfl ?_
     simp only [wS,simprocAttr]
     rw [hinv]
   ·have c1:decide (((i:Nat):Int)<((AC.length:Nat):Int))=false:=by simp;omega
    rw [List.drop_eq_nil_of_le (show A.length≤i by omega),List.drop_eq_nil_of_le (show B.length≤i by omega),TM] at hinv
    repeat' (first|(refine u'S ?_;simp only [wS,simprocAttr,c1])|refine u'Q fun _ _=>?_|refine aO ?_|refine aP (fun hg=>?_) fun hg=>?_|fail)
    refine aB rfl ?_
    simp only [wS,simprocAttr]
    rw [hinv]
 ·have c0:(((AC.length:Nat):Int) != ((BC.length:Nat):Int))=true:=by simp;omega
  by_cases hlt:A.length<B.length
  ·have c1:decide (((AC.length:Nat):Int)<((BC.length:Nat):Int))=true:=by simp;omega
   have hc:cW (A.length:Int) (B.length:Int)= -1:=by rw [cW,if_pos (by omega)]
   rw [hc] at hV
   repeat' (first|(refine u'S ?_;simp only [wS,simprocAttr,c0,c1])|refine u'Q fun _ _=>?_|refine aO ?_|refine aP (fun hg=>?_) fun hg=>?_|fail)
   refine aB rfl ?_
   simp only [wS,simprocAttr]
   rw [hV];rfl
  ·have c1:decide (((AC.length:Nat):Int)<((BC.length:Nat):Int))=false:=by simp;omega
   have hc:cW (A.length:Int) (B.length:Int)=1:=by rw [cW,if_neg (by omega),if_pos (by omega)]
   rw [hc] at hV
   repeat' (first|(refine u'S ?_;simp only [wS,simprocAttr,c0,c1])|refine u'Q fun _ _=>?_|refine aO ?_|refine aP (fun hg=>?_) fun hg=>?_|fail)
   refine aB rfl ?_
   simp only [wS,simprocAttr]
   rw [hV];rfl
theorem US (A B:List Si) (hA:A.length≤1000000000000000) (hp:∀ s∈A,s.1.length≤1000000000000000):Pure Tryz.prog G0 29 [mV A,mV B] (.bool (U4 A B==0)):=by
 have kc:=UT A B hA hp
 have hat:=cK A
 have hbt:=cK B
 simp only [mV] at kc ⊢
 generalize mC A=AC at hat kc ⊢
 generalize mC B=BC at hbt kc ⊢
 generalize U4 A B=V at kc ⊢
 refine aQ hG0 Tryz.func29 rfl (by kernel_rfl) (by simp [Tryz.ntmps29]) (by simp only [inL,inR,hat,hbt,Bool.and_self]) (by simp [inR]) ?_
 simp only [Tryz.ntmps29,aH,Nat.reduceAdd]
 repeat' (first|(refine u'S ?_;simp only [wS,simprocAttr])|refine u'Q fun _ _=>?_|refine aO ?_|refine aP (fun hg=>?_) fun hg=>?_|refine u'G ?_|fail)
 refine aB rfl ?_
 simp only [wS,simprocAttr]
end Go.Proofs.YtggflhbigolakaaGreatDoor
