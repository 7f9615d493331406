import Derived.Test.YtggflhbigolakaaGreatDoorG
import Derived.Test.YtggflhbigolakaaGreatDoorAE
namespace Go.Proofs.YtggflhbigolakaaGreatDoor
open Go.AM
@[reducible] def aDB:Code->Option Exit
 | .skip=>some .normal
 | .exit id=>some (.exit id)
 | .ret=>some .ret
 |_=>none
section
variable [i6] {P:Program} {G:Nat->Option (List AV)} {n k:Nat} {Q:Exit->AS->Prop} {s:AS}
theorem WO {x y:Code} (h:∀ K:AS->Prop,Cont P G n k y Q K->cG P G n k x (mY K Q) s):cG P G n k (.seq x y) Q s:=cR h
theorem LX {id:Nat} {c:Code} (h:cG P G n k c (oD id Q) s):cG P G n k (.block id c) Q s:=qO h
theorem SH {id:Nat} {ops:Array Oper} (h:bG P G n (fun _=>Q .normal) (fQ ops) none s):cG P G n k (.region id ops false) Q s:=t3 h
theorem SG {rid:Nat} {ops:Array Oper} (h:bG P G n (fun m s'=>KQ ops m/\Q .normal s') (fQ ops) (some []) s) (hm:P.follows .mixedOrders=true:=by kernel_rfl) (hs:jG ops=true:=by kernel_rfl):cG P G n k (.region rid ops true) Q s:=GZ hm hs h
theorem WN {c:Operand} {x y:Code} (h:∀ X Y:Prop,Arm P G n k x Q s X->Arm P G n k y Q s Y->lX X Y (d8 G s.get c)):cG P G n k (.cond c x y) Q s:=NG h
theorem LT (h:Q .normal s):cG P G n k .skip Q s:=AY h
theorem LV {id:Nat} (h:Q (.exit id) s):cG P G n k (.exit id) Q s:=t4 h
theorem LU (h:Q .ret s):cG P G n k .ret Q s:=w5 h
theorem X3 {y:Code} {K:AS->Prop} (h:cG P G n k y Q s) (c:Cont P G n k y Q K:=by assumption):K s:=c s h
theorem X2 {y:Code} {X:Prop} (h:cG P G n k y Q s) (c:Arm P G n k y Q s X:=by assumption):X:=c h
variable {ι:Type} {R: ι->Prop} {Q: ι->Exit->AS->Prop}
theorem v's (h:EG R (fun i=>Q i .normal s)):EG R (fun i=>cG P G n k .skip (Q i) s):=h.mono fun _ q=>AY q
theorem v'e {id:Nat} (h:EG R (fun i=>Q i (.exit id) s)):EG R (fun i=>cG P G n k (.exit id) (Q i) s):=h.mono fun _ q=>t4 q
theorem v'r (h:EG R (fun i=>Q i .ret s)):EG R (fun i=>cG P G n k .ret (Q i) s):=h.mono fun _ q=>w5 q
theorem v'8 {y:Code} {K: ι->AS->Prop} (h:EG R (fun i=>cG P G n k y (Q i) s)) (c:ContE P G n k R y Q K:=by assumption):EG R (fun i=>K i s):=c s h
theorem v'9 {y:Code} {X: ι->Prop} (h:EG R (fun i=>cG P G n k y (Q i) s)) (c:ArmE P G n k R y Q s X:=by assumption):EG R X:=c h
theorem v'1 {x y:Code} (h:∀ K: ι->AS->Prop,ContE P G n k R y Q K->EG R (fun i=>cG P G n k x (mY (K i) (Q i)) s)):EG R (fun i=>cG P G n k (.seq x y) (Q i) s):=V8 h
theorem v'2 {id:Nat} {c:Code} (h:EG R (fun i=>cG P G n k c (oD id (Q i)) s)):EG R (fun i=>cG P G n k (.block id c) (Q i) s):=VA h
theorem v'3 {id:Nat} {ops:Array Oper} (h:EG R (fun i=>bG P G n (fun _=>Q i .normal) (fQ ops) none s)):EG R (fun i=>cG P G n k (.region id ops false) (Q i) s):=aA7 h
theorem v'4 {id:Nat} {ops:Array Oper} (h:EG R (fun i=>bG P G n (fun m s'=>KQ ops m/\Q i .normal s') (fQ ops) (some []) s)) (hm:P.follows .mixedOrders=true:=by kernel_rfl) (hs:jG ops=true:=by kernel_rfl):EG R (fun i=>cG P G n k (.region id ops true) (Q i) s):=aA8 hm hs h
theorem v'5 {c:Operand} {x y:Code} (h:∀ X Y: ι->Prop,ArmE P G n k R x Q s X->ArmE P G n k R y Q s Y->EG R (fun i=>lX (X i) (Y i) (d8 G s.get c))):EG R (fun i=>cG P G n k (.cond c x y) (Q i) s):=R4 h
end
section
variable {P:Program} {G:Nat->Option (List AV)} {n:Nat} {d:Option Tmp} {rest:List nA} {m:Option eV} {s:AS}
theorem SF {K:Option eV->AS->Prop} {op:Op} {want b:Bool} (ht:b=true->aQ P G n K d rest m s op want (.bool true)) (hf:b=false->aQ P G n K d rest m s op want (.bool false)):aQ P G n K d rest m s op want (.bool b):=JX ht hf
theorem v'6 {ι:Type} {R: ι->Prop} {K: ι->Option eV->AS->Prop} {op:Op} {want b:Bool} (ht:b=true->EG R (fun i=>aQ P G n (K i) d rest m s op want (.bool true))) (hf:b=false->EG R (fun i=>aQ P G n (K i) d rest m s op want (.bool false))):EG R (fun i=>aQ P G n (K i) d rest m s op want (.bool b)):=V9 ht hf
end
theorem wS:type_of% (aa Z2 (aa amL (aa tyS (aa amB (aa @Int.le_refl @ax))))):=aa Z2 (aa amL (aa tyS (aa amB (aa @Int.le_refl @ax))))
theorem wE:type_of% (aa Z2 amB):=aa Z2 amB
section
variable [i6] {P:Program} {G:Nat->Option (List AV)} {n k:Nat} {Q:Exit->AS->Prop} {s:AS} {y:Code}
theorem u'C {K:AS->Prop} (c:Cont P G n k y Q K) (h:cG P G n k y Q s):K s:=c s h
theorem u'D {X:Prop} (c:Arm P G n k y Q s X) (h:cG P G n k y Q s):X:=c h
variable {ι:Type} {R: ι->Prop} {Q: ι->Exit->AS->Prop}
theorem v'C {K: ι->AS->Prop} (c:ContE P G n k R y Q K) (h:EG R (fun i=>cG P G n k y (Q i) s)):EG R (fun i=>K i s):=c s h
theorem v'D {X: ι->Prop} (c:ArmE P G n k R y Q s X) (h:EG R (fun i=>cG P G n k y (Q i) s)):EG R X:=c h
end
theorem u'R {A B:Prop} (h:A) (k:A->B:=by with_reducible first|exact fun h=>SH h|exact fun h=>SG h):B:=k h
theorem v'R {A B:Prop} (h:A) (k:A->B:=by with_reducible first|exact fun h=>v'3 h|exact fun h=>v'4 h):B:=k h
theorem u'X {A B:Prop} (h:A) (k:A->B:=by first|with_reducible exact LX|(refine fun h=>?_;(with_reducible first|refine LT ?_|refine LV ?_|refine LU ?_);(try simp only [wE,simprocAttr]);exact h)|with_reducible exact u'D (by assumption)):B:=k h
theorem u'W {A B:Prop} (h:A) (k:A->B:=by first|with_reducible exact LX|(refine fun h=>?_;(with_reducible first|refine LT ?_|refine LV ?_|refine LU ?_);(try simp only [wE,simprocAttr]);exact h)|with_reducible exact u'C (by assumption)|with_reducible exact u'D (by assumption)):B:=k h
theorem v'X {A B:Prop} (h:A) (k:A->B:=by first|with_reducible exact v'2|(refine fun h=>?_;(with_reducible first|refine v's ?_|refine v'e ?_|refine v'r ?_);(try simp only [wE,simprocAttr]);exact h)|with_reducible exact v'D (by assumption)):B:=k h
theorem v'W {A B:Prop} (h:A) (k:A->B:=by first|with_reducible exact v'2|(refine fun h=>?_;(with_reducible first|refine v's ?_|refine v'e ?_|refine v'r ?_);(try simp only [wE,simprocAttr]);exact h)|with_reducible exact v'C (by assumption)|with_reducible exact v'D (by assumption)):B:=k h
theorem u'A {a b:Prop} (h:b) (k:a:=by kernel_rfl):a/\b:=⟨k,h⟩
@[irreducible] def SB (A:Prop):Prop:=A
@[irreducible] def u'V {α:Type} (p q: α->Prop):Prop:=∀ a,p a->q a
theorem gR {A:Prop} (h:SB A):A:=by unfold SB at h;exact h
theorem aCQ {A:Prop} (h:A):SB A:=by unfold SB;exact h
theorem aBK {α:Type} {p q: α->Prop} (h:∀ a,p a->q a):u'V p q:=by unfold u'V;exact h
theorem aBL {α:Type} {p q: α->Prop} (h:u'V p q):∀ a,p a->q a:=by unfold u'V at h;exact h
section
variable [i6] {P:Program} {G:Nat->Option (List AV)} {n k:Nat} {Q:Exit->AS->Prop} {s:AS}
theorem X5 {id:Nat} {ops:Array Oper} (h:SB (bG P G n (fun _=>Q .normal) (fQ ops) none s)):cG P G n k (.region id ops false) Q s:=SH (gR h)
theorem X4 {rid:Nat} {ops:Array Oper} (h:SB (bG P G n (fun m s'=>KQ ops m/\Q .normal s') (fQ ops) (some []) s)) (hm:P.follows .mixedOrders=true:=by kernel_rfl) (hs:jG ops=true:=by kernel_rfl):cG P G n k (.region rid ops true) Q s:=SG (gR h) hm hs
theorem aCT {c:Operand} {x y:Code} (h:∀ X:Prop,Arm P G n k x Q s X->u'V (fun Y=>Arm P G n k y Q s Y) (fun Y=>SB (lX X Y (d8 G s.get c)))):cG P G n k (.cond c x y) Q s:=WN fun X Y a b=>gR (aBL (h X a) Y b)
variable {ι:Type} {R: ι->Prop} {Q: ι->Exit->AS->Prop}
theorem X1 {id:Nat} {ops:Array Oper} (h:SB (EG R (fun i=>bG P G n (fun _=>Q i .normal) (fQ ops) none s))):EG R (fun i=>cG P G n k (.region id ops false) (Q i) s):=v'3 (gR h)
theorem X0 {id:Nat} {ops:Array Oper} (h:SB (EG R (fun i=>bG P G n (fun m s'=>KQ ops m/\Q i .normal s') (fQ ops) (some []) s))) (hm:P.follows .mixedOrders=true:=by kernel_rfl) (hs:jG ops=true:=by kernel_rfl):EG R (fun i=>cG P G n k (.region id ops true) (Q i) s):=v'4 (gR h) hm hs
theorem aCP {c:Operand} {x y:Code} (h:∀ X: ι->Prop,ArmE P G n k R x Q s X->u'V (fun Y=>ArmE P G n k R y Q s Y) (fun Y=>SB (EG R (fun i=>lX (X i) (Y i) (d8 G s.get c))))):EG R (fun i=>cG P G n k (.cond c x y) (Q i) s):=v'5 fun X Y a b=>gR (aBL (h X a) Y b)
end
theorem HT {α:Type} {p q: α->Prop} {B:Prop} (h:∀ a,p a->q a) (k:(∀ a,p a->q a)->B:=by with_reducible first|exact WO|exact aCT|exact aBK):B:=k h
theorem v'Q {α:Type} {p q: α->Prop} {B:Prop} (h:∀ a,p a->q a) (k:(∀ a,p a->q a)->B:=by with_reducible first|exact v'1|exact aCP|exact aBK):B:=k h
theorem cC {A B:Prop} (h:A) (k:A->B:=by with_reducible exact aCQ):B:=k h
theorem SD {A B:Prop} (h:A) (k:A->B:=by first|with_reducible exact LX|with_reducible exact fun h=>X5 h|with_reducible exact fun h=>X4 h|(refine fun h=>?_;(with_reducible first|refine LT ?_|refine LV ?_|refine LU ?_);(try simp only [wE,simprocAttr]);exact h)|with_reducible exact u'C (by assumption)|with_reducible exact u'D (by assumption)):B:=k h
theorem EX {A B:Prop} (h:A) (k:A->B:=by first|with_reducible exact LX|with_reducible exact fun h=>X5 h|with_reducible exact fun h=>X4 h|(refine fun h=>?_;(with_reducible first|refine LT ?_|refine LV ?_|refine LU ?_);(try simp only [wE,simprocAttr]);exact h)|with_reducible exact u'C (by assumption)|with_reducible exact u'D (by assumption)|with_reducible exact fun h=>u'A h):B:=k h
theorem ZY {A B:Prop} (h:A) (k:A->B:=by first|with_reducible exact LX|with_reducible exact fun h=>X5 h|with_reducible exact fun h=>X4 h|(refine fun h=>?_;(with_reducible first|refine LT ?_|refine LV ?_|refine LU ?_);(try simp only [wE,simprocAttr]);exact h)|with_reducible exact u'D (by assumption)):B:=k h
theorem aDK {A B:Prop} (h:A) (k:A->B:=by first|with_reducible exact LX|with_reducible exact fun h=>X5 h|with_reducible exact fun h=>X4 h|(refine fun h=>?_;(with_reducible first|refine LT ?_|refine LV ?_|refine LU ?_);(try simp only [wE,simprocAttr]);exact h)|with_reducible exact u'D (by assumption)|with_reducible exact fun h=>u'A h):B:=k h
theorem aBI {A B:Prop} (h:A) (k:A->B:=by first|with_reducible exact v'2|with_reducible exact fun h=>X1 h|with_reducible exact fun h=>X0 h|(refine fun h=>?_;(with_reducible first|refine v's ?_|refine v'e ?_|refine v'r ?_);(try simp only [wE,simprocAttr]);exact h)|with_reducible exact v'C (by assumption)|with_reducible exact v'D (by assumption)):B:=k h
theorem aDE {A B:Prop} (h:A) (k:A->B:=by first|with_reducible exact v'2|with_reducible exact fun h=>X1 h|with_reducible exact fun h=>X0 h|(refine fun h=>?_;(with_reducible first|refine v's ?_|refine v'e ?_|refine v'r ?_);(try simp only [wE,simprocAttr]);exact h)|with_reducible exact v'C (by assumption)|with_reducible exact v'D (by assumption)|with_reducible exact fun h=>u'A h):B:=k h
theorem aDF {A B:Prop} (h:A) (k:A->B:=by first|with_reducible exact v'2|with_reducible exact fun h=>X1 h|with_reducible exact fun h=>X0 h|(refine fun h=>?_;(with_reducible first|refine v's ?_|refine v'e ?_|refine v'r ?_);(try simp only [wE,simprocAttr]);exact h)|with_reducible exact v'D (by assumption)):B:=k h
theorem aDG {A B:Prop} (h:A) (k:A->B:=by first|with_reducible exact v'2|with_reducible exact fun h=>X1 h|with_reducible exact fun h=>X0 h|(refine fun h=>?_;(with_reducible first|refine v's ?_|refine v'e ?_|refine v'r ?_);(try simp only [wE,simprocAttr]);exact h)|with_reducible exact v'D (by assumption)|with_reducible exact fun h=>u'A h):B:=k h
theorem HU {x y C D B:Prop} (h:x->C) (h':y->D) (k:(x->C)->(y->D)->B:=by first|(intro h h';with_reducible refine SF (fun hg=>?_) (fun hg=>?_);(focus (try simp only [hg]);exact gR (h hg));(focus (try simp only [hg]);exact gR (h' hg)))):B:=k h h'
theorem EY {x y C D B:Prop} (h:x->C) (h':y->D) (k:(x->C)->(y->D)->B:=by first|(intro h h';with_reducible refine SF (fun hg=>?_) (fun hg=>?_);(focus (try simp only [hg]);exact gR (h hg));(focus (try simp only [hg]);exact gR (h' hg)))|with_reducible exact aa):B:=k h h'
theorem aBJ {x y C D B:Prop} (h:x->C) (h':y->D) (k:(x->C)->(y->D)->B:=by first|(intro h h';with_reducible refine v'6 (fun hg=>?_) (fun hg=>?_);(focus (try simp only [hg]);exact gR (h hg));(focus (try simp only [hg]);exact gR (h' hg)))):B:=k h h'
theorem aDH {x y C D B:Prop} (h:x->C) (h':y->D) (k:(x->C)->(y->D)->B:=by first|(intro h h';with_reducible refine v'6 (fun hg=>?_) (fun hg=>?_);(focus (try simp only [hg]);exact gR (h hg));(focus (try simp only [hg]);exact gR (h' hg)))|with_reducible exact KI|with_reducible exact VB):B:=k h h'
section
variable {P:Program} {G:Nat->Option (List AV)} {n:Nat} {d:Option Tmp} {rest:List nA} {m:Option eV} {s:AS}
theorem aCR {K:Option eV->AS->Prop} {f:FuncId} {args:List AV} {res:AV} (h:Pure P G0 f args res) (hk:SB (bG P G0 n K rest (lM m [] []) (s.put d res))):bI P G0 n K d rest m s f args:=bO bX h (gR hk)
end
theorem iP {A B:Prop} (h:A) (k:A->B:=by with_reducible exact aCR (by assumption)):B:=k h
theorem aZ {A:Prop} (k:A:=by simp only [wS,simprocAttr];try exact rfl):A:=k
theorem lQ {A:Prop} (k:A:=by simp only [wS,simprocAttr]):A:=k
theorem aC {A B:Prop} (h:A) (k:A->B:=by intro h;simp only [bn,jh,or_false] at h;exact h):B:=k h
theorem aS {B:Prop} (k:B:=by simp only [bg,bz,ab,ae];all_goals (rcases ?_ with h;exact h)):B:=k
theorem aA {B:Prop} (k:B:=by simp only [wS,simprocAttr];all_goals (rcases ?_ with h;exact h)):B:=k
theorem aF {B:Prop} (k:B:=by (repeat' (first|(refine cC ?_;simp only [wS,simprocAttr])|refine HT fun _ _=>?_|refine SD ?_|refine HU (fun hg=>?_) fun hg=>?_|fail));all_goals (rcases ?_ with h;exact h)):B:=k
theorem aR {A B:Prop} (a:A) (k:A->B:=by intro q'1;(repeat' (first|(refine cC ?_;simp only [wS,simprocAttr,q'1])|refine HT fun _ _=>?_|refine SD ?_|refine HU (fun hg=>?_) fun hg=>?_|fail));all_goals (clear q'1;rcases ?_ with h;exact h)):B:=k a
theorem eB {a b c:Prop} (a':a) (b':b) (c':c):a/\b/\c:=⟨a',b',c'⟩
theorem gU {B:Prop} (k:B:=by (repeat' (first|(refine cC ?_;simp only [wS,simprocAttr])|refine HT fun _ _=>?_|refine EX ?_|refine EY (fun hg=>?_) fun hg=>?_|refine iP ?_|fail));all_goals (rcases ?_ with h;exact h)):B:=k
theorem aM {B:Prop} (k:B:=by (first|refine HT fun _ _=>?_|refine EX ?_|refine EY (fun hg=>?_) fun hg=>?_|fail);all_goals (rcases ?_ with h;exact h)):B:=k
theorem gT {A B:Prop} (a:A) (k:A->B:=by intro q'1;(repeat' (first|(refine cC ?_;simp only [wS,simprocAttr,q'1,bf,be])|refine HT fun _ _=>?_|refine EX ?_|refine EY (fun hg=>?_) fun hg=>?_|fail));all_goals (clear q'1;rcases ?_ with h;exact h)):B:=k a
theorem bF {a b:Prop} (a':a) (b':b):a/\b:=⟨a',b'⟩
theorem bB {A B:Prop} (a:A) (k:A->B:=by intro q'1;(repeat' (first|(refine cC ?_;simp only [wS,simprocAttr,q'1])|refine HT fun _ _=>?_|refine EX ?_|refine EY (fun hg=>?_) fun hg=>?_|fail));all_goals (clear q'1;rcases ?_ with h;exact h)):B:=k a
theorem dM {A B:Prop} (a:A) (k:A->B:=by intro q'1;(repeat' (first|(refine cC ?_;simp only [wS,simprocAttr,q'1,bf,be])|refine HT fun _ _=>?_|refine EX ?_|refine EY (fun hg=>?_) fun hg=>?_|refine iP ?_|fail));all_goals (clear q'1;rcases ?_ with h;exact h)):B:=k a
theorem dV {a b c d:Prop} (a':a) (b':b) (c':c) (d':d):a/\b/\c/\d:=⟨a',b',c',d'⟩
theorem c7 {A B:Prop} (a:A) (k:A->B:=by intro q'1;(repeat' (first|(refine cC ?_;simp only [wS,simprocAttr,q'1])|refine HT fun _ _=>?_|refine EX ?_|refine EY (fun hg=>?_) fun hg=>?_|refine iP ?_|fail));all_goals (clear q'1;rcases ?_ with h;exact h)):B:=k a
theorem cP {A B:Prop} (a:A) (k:A->B:=by intro q'1;(repeat' (first|(refine cC ?_;simp only [wS,simprocAttr,q'1])|refine HT fun _ _=>?_|refine ZY ?_|refine HU (fun hg=>?_) fun hg=>?_|fail));all_goals (clear q'1;rcases ?_ with h;exact h)):B:=k a
theorem aH {B:Prop} (k:B:=by (first|refine HT fun _ _=>?_|refine SD ?_|refine HU (fun hg=>?_) fun hg=>?_|fail);all_goals (rcases ?_ with h;exact h)):B:=k
theorem gB {B:Prop} (k:B:=by (repeat' (first|(refine cC ?_;simp only [wS,simprocAttr])|refine HT fun _ _=>?_|refine ZY ?_|refine HU (fun hg=>?_) fun hg=>?_|fail));all_goals (rcases ?_ with h;exact h)):B:=k
theorem xC {B:Prop} (k:B:=by (repeat' (first|(refine cC ?_;simp only [wS,simprocAttr])|refine HT fun _ _=>?_|refine EX ?_|refine EY (fun hg=>?_) fun hg=>?_|fail));all_goals (rcases ?_ with h;exact h)):B:=k
theorem eT {a b c d e f g:Prop} (a':a) (b':b) (c':c) (d':d) (e':e) (f':f) (g':g):a/\b/\c/\d/\e/\f/\g:=⟨a',b',c',d',e',f',g'⟩
theorem f9 {a b c d e f:Prop} (a':a) (b':b) (c':c) (d':d) (e':e) (f':f):a/\b/\c/\d/\e/\f:=⟨a',b',c',d',e',f'⟩
theorem S8 {B:Prop} (k:B:=by (first|refine v'Q fun _ _=>?_|refine aBI ?_|refine aBJ (fun hg=>?_) fun hg=>?_|fail);all_goals (rcases ?_ with h;exact h)):B:=k
theorem sI {B:Prop} (k:B:=by (first|refine HT fun _ _=>?_|refine ZY ?_|refine HU (fun hg=>?_) fun hg=>?_|fail);all_goals (rcases ?_ with h;exact h)):B:=k
theorem f8 {A B:Prop} (a:A) (k:A->B:=by intro q'1;(repeat' (first|(refine cC ?_;simp only [wS,simprocAttr,q'1,bf,be])|refine HT fun _ _=>?_|refine SD ?_|refine HU (fun hg=>?_) fun hg=>?_|fail));all_goals (clear q'1;rcases ?_ with h;exact h)):B:=k a
theorem SA {B:Prop} (k:B:=by (repeat' (first|(refine cC ?_;simp only [wS,simprocAttr])|refine v'Q fun _ _=>?_|refine aBI ?_|refine aBJ (fun hg=>?_) fun hg=>?_|fail));all_goals (rcases ?_ with h;exact h)):B:=k
theorem kT {a b c d e:Prop} (a':a) (b':b) (c':c) (d':d) (e':e):a/\b/\c/\d/\e:=⟨a',b',c',d',e'⟩
theorem jI {B:Prop} (k:B:=by (repeat' (first|(refine cC ?_;simp only [wS,simprocAttr,bf,be])|refine HT fun _ _=>?_|refine EX ?_|refine EY (fun hg=>?_) fun hg=>?_|refine iP ?_|fail));all_goals (rcases ?_ with h;exact h)):B:=k
theorem S9 {a b c d e f g h i j k l m n o p q:Prop} (a':a) (b':b) (c':c) (d':d) (e':e) (f':f) (g':g) (h':h) (i':i) (j':j) (k':k) (l':l) (m':m) (n':n) (o':o) (p':p) (q':q):a/\b/\c/\d/\e/\f/\g/\h/\i/\j/\k/\l/\m/\n/\o/\p/\q:=⟨a',b',c',d',e',f',g',h',i',j',k',l',m',n',o',p',q'⟩
theorem f7 {a b c d e f g h:Prop} (a':a) (b':b) (c':c) (d':d) (e':e) (f':f) (g':g) (h':h):a/\b/\c/\d/\e/\f/\g/\h:=⟨a',b',c',d',e',f',g',h'⟩
theorem HR {B:Prop} (k:B:=by (repeat' (first|(refine cC ?_;simp only [wS,simprocAttr,bf,be])|refine HT fun _ _=>?_|refine SD ?_|refine HU (fun hg=>?_) fun hg=>?_|fail));all_goals (rcases ?_ with h;exact h)):B:=k
theorem HQ {B:Prop} (k:B:=by (repeat' (first|(refine cC ?_;simp only [wS,simprocAttr,bf,be])|refine HT fun _ _=>?_|refine EX ?_|refine EY (fun hg=>?_) fun hg=>?_|fail));all_goals (rcases ?_ with h;exact h)):B:=k
theorem HO {a b c d e f g h i:Prop} (a':a) (b':b) (c':c) (d':d) (e':e) (f':f) (g':g) (h':h) (i':i):a/\b/\c/\d/\e/\f/\g/\h/\i:=⟨a',b',c',d',e',f',g',h',i'⟩
end Go.Proofs.YtggflhbigolakaaGreatDoor
