import Derived.Test.YtggflhbigolakaaGreatDoorG
import Derived.Test.YtggflhbigolakaaGreatDoorAE
set_option linter.unusedVariables false
namespace Go.Proofs.YtggflhbigolakaaGreatDoor
open Go.AM
@[reducible] def T9:Code→Option Exit
 | .skip=>some .normal
 | .exit id=>some (.exit id)
 | .ret=>some .ret
 |_=>none
section
variable [Rnd] {P:Program} {G:Nat→Option (List AV)} {n k:Nat} {Q:Exit→AS→Prop} {s:AS}
theorem u'1 {x y:Code} (h:∀ K:AS→Prop,Cont P G n k y Q K→AWp P G n k x (lH K Q) s):AWp P G n k (.seq x y) Q s:=IQ h
theorem u'2 {id:Nat} {c:Code} (h:AWp P G n k c (lA id Q) s):AWp P G n k (.block id c) Q s:=qT h
theorem u'3 {id:Nat} {ops:Array Oper} (h:aY P G n (fun _=>Q .normal) (dQ ops) none s):AWp P G n k (.region id ops false) Q s:=BH h
theorem u'4 {rid:Nat} {ops:Array Oper} (h:aY P G n (fun m s'=>EH ops m∧Q .normal s') (dQ ops) (some []) s) (hm:P.follows .mixedOrders=true:=by kernel_rfl) (hs:fV ops=true:=by kernel_rfl):AWp P G n k (.region rid ops true) Q s:=BK hm hs h
theorem u'5 {c:Operand} {x y:Code} (h:∀ X Y:Prop,Arm P G n k x Q s X→Arm P G n k y Q s Y→jC X Y (evA G s.get c)):AWp P G n k (.cond c x y) Q s:=G5 h
theorem u's (h:Q .normal s):AWp P G n k .skip Q s:=vY h
theorem u'e {id:Nat} (h:Q (.exit id) s):AWp P G n k (.exit id) Q s:=pY h
theorem u'r (h:Q .ret s):AWp P G n k .ret Q s:=sM h
theorem u'8 {y:Code} {K:AS→Prop} (h:AWp P G n k y Q s) (c:Cont P G n k y Q K:=by assumption):K s:=c s h
theorem u'9 {y:Code} {X:Prop} (h:AWp P G n k y Q s) (c:Arm P G n k y Q s X:=by assumption):X:=c h
variable {ι:Type} {R: ι→Prop} {Q: ι→Exit→AS→Prop}
theorem v's (h:EG R (fun i=>Q i .normal s)):EG R (fun i=>AWp P G n k .skip (Q i) s):=h.mono fun _ q=>vY q
theorem v'e {id:Nat} (h:EG R (fun i=>Q i (.exit id) s)):EG R (fun i=>AWp P G n k (.exit id) (Q i) s):=h.mono fun _ q=>pY q
theorem v'r (h:EG R (fun i=>Q i .ret s)):EG R (fun i=>AWp P G n k .ret (Q i) s):=h.mono fun _ q=>sM q
theorem v'8 {y:Code} {K: ι→AS→Prop} (h:EG R (fun i=>AWp P G n k y (Q i) s)) (c:ContE P G n k R y Q K:=by assumption):EG R (fun i=>K i s):=c s h
theorem v'9 {y:Code} {X: ι→Prop} (h:EG R (fun i=>AWp P G n k y (Q i) s)) (c:ArmE P G n k R y Q s X:=by assumption):EG R X:=c h
theorem v'1 {x y:Code} (h:∀ K: ι→AS→Prop,ContE P G n k R y Q K→EG R (fun i=>AWp P G n k x (lH (K i) (Q i)) s)):EG R (fun i=>AWp P G n k (.seq x y) (Q i) s):=c9 h
theorem v'2 {id:Nat} {c:Code} (h:EG R (fun i=>AWp P G n k c (lA id (Q i)) s)):EG R (fun i=>AWp P G n k (.block id c) (Q i) s):=LL h
theorem v'3 {id:Nat} {ops:Array Oper} (h:EG R (fun i=>aY P G n (fun _=>Q i .normal) (dQ ops) none s)):EG R (fun i=>AWp P G n k (.region id ops false) (Q i) s):=QE h
theorem v'4 {id:Nat} {ops:Array Oper} (h:EG R (fun i=>aY P G n (fun m s'=>EH ops m∧Q i .normal s') (dQ ops) (some []) s)) (hm:P.follows .mixedOrders=true:=by kernel_rfl) (hs:fV ops=true:=by kernel_rfl):EG R (fun i=>AWp P G n k (.region id ops true) (Q i) s):=QF hm hs h
theorem v'5 {c:Operand} {x y:Code} (h:∀ X Y: ι→Prop,ArmE P G n k R x Q s X→ArmE P G n k R y Q s Y→EG R (fun i=>jC (X i) (Y i) (evA G s.get c))):EG R (fun i=>AWp P G n k (.cond c x y) (Q i) s):=II h
end
section
variable {P:Program} {G:Nat→Option (List AV)} {n:Nat} {d:Option Tmp} {rest:List POp} {m:Option Acc} {s:AS}
theorem u'6 {K:Option Acc→AS→Prop} {op:Op} {want b:Bool} (ht:b=true→aN P G n K d rest m s op want (.bool true)) (hf:b=false→aN P G n K d rest m s op want (.bool false)):aN P G n K d rest m s op want (.bool b):=DV ht hf
theorem v'6 {ι:Type} {R: ι→Prop} {K: ι→Option Acc→AS→Prop} {op:Op} {want b:Bool} (ht:b=true→EG R (fun i=>aN P G n (K i) d rest m s op want (.bool true))) (hf:b=false→EG R (fun i=>aN P G n (K i) d rest m s op want (.bool false))):EG R (fun i=>aN P G n (K i) d rest m s op want (.bool b)):=LK ht hf
end
theorem wS:type_of% (And.intro amS (And.intro amL (And.intro tyS (And.intro amB (And.intro @Int.le_refl @Int.toNat_natCast))))):=And.intro amS (And.intro amL (And.intro tyS (And.intro amB (And.intro @Int.le_refl @Int.toNat_natCast))))
theorem wE:type_of% (And.intro amS amB):=And.intro amS amB
section
variable [Rnd] {P:Program} {G:Nat→Option (List AV)} {n k:Nat} {Q:Exit→AS→Prop} {s:AS} {y:Code}
theorem u'C {K:AS→Prop} (c:Cont P G n k y Q K) (h:AWp P G n k y Q s):K s:=c s h
theorem u'D {X:Prop} (c:Arm P G n k y Q s X) (h:AWp P G n k y Q s):X:=c h
variable {ι:Type} {R: ι→Prop} {Q: ι→Exit→AS→Prop}
theorem v'C {K: ι→AS→Prop} (c:ContE P G n k R y Q K) (h:EG R (fun i=>AWp P G n k y (Q i) s)):EG R (fun i=>K i s):=c s h
theorem v'D {X: ι→Prop} (c:ArmE P G n k R y Q s X) (h:EG R (fun i=>AWp P G n k y (Q i) s)):EG R X:=c h
end
theorem u'R {A B:Prop} (h:A) (k:A→B:=by with_reducible first|exact fun h=>u'3 h|exact fun h=>u'4 h):B:=k h
theorem v'R {A B:Prop} (h:A) (k:A→B:=by with_reducible first|exact fun h=>v'3 h|exact fun h=>v'4 h):B:=k h
theorem u'X {A B:Prop} (h:A) (k:A→B:=by first|with_reducible exact u'2|(refine fun h=>?_;(with_reducible first|refine u's ?_|refine u'e ?_|refine u'r ?_);(try simp only [wE,simprocAttr]);exact h)|with_reducible exact u'D (by assumption)):B:=k h
theorem u'W {A B:Prop} (h:A) (k:A→B:=by first|with_reducible exact u'2|(refine fun h=>?_;(with_reducible first|refine u's ?_|refine u'e ?_|refine u'r ?_);(try simp only [wE,simprocAttr]);exact h)|with_reducible exact u'C (by assumption)|with_reducible exact u'D (by assumption)):B:=k h
theorem v'X {A B:Prop} (h:A) (k:A→B:=by first|with_reducible exact v'2|(refine fun h=>?_;(with_reducible first|refine v's ?_|refine v'e ?_|refine v'r ?_);(try simp only [wE,simprocAttr]);exact h)|with_reducible exact v'D (by assumption)):B:=k h
theorem v'W {A B:Prop} (h:A) (k:A→B:=by first|with_reducible exact v'2|(refine fun h=>?_;(with_reducible first|refine v's ?_|refine v'e ?_|refine v'r ?_);(try simp only [wE,simprocAttr]);exact h)|with_reducible exact v'C (by assumption)|with_reducible exact v'D (by assumption)):B:=k h
theorem u'A {a b:Prop} (h:b) (k:a:=by kernel_rfl):a∧b:=⟨k,h⟩
@[irreducible] def u'Z (A:Prop):Prop:=A
@[irreducible] def u'V {α:Type} (p q: α→Prop):Prop:=∀ a,p a→q a
theorem u'T {A:Prop} (h:u'Z A):A:=by unfold u'Z at h;exact h
theorem SI {A:Prop} (h:A):u'Z A:=by unfold u'Z;exact h
theorem R2 {α:Type} {p q: α→Prop} (h:∀ a,p a→q a):u'V p q:=by unfold u'V;exact h
theorem R3 {α:Type} {p q: α→Prop} (h:u'V p q):∀ a,p a→q a:=by unfold u'V at h;exact h
section
variable [Rnd] {P:Program} {G:Nat→Option (List AV)} {n k:Nat} {Q:Exit→AS→Prop} {s:AS}
theorem MB {id:Nat} {ops:Array Oper} (h:u'Z (aY P G n (fun _=>Q .normal) (dQ ops) none s)):AWp P G n k (.region id ops false) Q s:=u'3 (u'T h)
theorem MA {rid:Nat} {ops:Array Oper} (h:u'Z (aY P G n (fun m s'=>EH ops m∧Q .normal s') (dQ ops) (some []) s)) (hm:P.follows .mixedOrders=true:=by kernel_rfl) (hs:fV ops=true:=by kernel_rfl):AWp P G n k (.region rid ops true) Q s:=u'4 (u'T h) hm hs
theorem SK {c:Operand} {x y:Code} (h:∀ X:Prop,Arm P G n k x Q s X→u'V (fun Y=>Arm P G n k y Q s Y) (fun Y=>u'Z (jC X Y (evA G s.get c)))):AWp P G n k (.cond c x y) Q s:=u'5 fun X Y a b=>u'T (R3 (h X a) Y b)
variable {ι:Type} {R: ι→Prop} {Q: ι→Exit→AS→Prop}
theorem M9 {id:Nat} {ops:Array Oper} (h:u'Z (EG R (fun i=>aY P G n (fun _=>Q i .normal) (dQ ops) none s))):EG R (fun i=>AWp P G n k (.region id ops false) (Q i) s):=v'3 (u'T h)
theorem M8 {id:Nat} {ops:Array Oper} (h:u'Z (EG R (fun i=>aY P G n (fun m s'=>EH ops m∧Q i .normal s') (dQ ops) (some []) s))) (hm:P.follows .mixedOrders=true:=by kernel_rfl) (hs:fV ops=true:=by kernel_rfl):EG R (fun i=>AWp P G n k (.region id ops true) (Q i) s):=v'4 (u'T h) hm hs
theorem SH {c:Operand} {x y:Code} (h:∀ X: ι→Prop,ArmE P G n k R x Q s X→u'V (fun Y=>ArmE P G n k R y Q s Y) (fun Y=>u'Z (EG R (fun i=>jC (X i) (Y i) (evA G s.get c))))):EG R (fun i=>AWp P G n k (.cond c x y) (Q i) s):=v'5 fun X Y a b=>u'T (R3 (h X a) Y b)
end
theorem u'Q {α:Type} {p q: α→Prop} {B:Prop} (h:∀ a,p a→q a) (k:(∀ a,p a→q a)→B:=by with_reducible first|exact u'1|exact SK|exact R2):B:=k h
theorem v'Q {α:Type} {p q: α→Prop} {B:Prop} (h:∀ a,p a→q a) (k:(∀ a,p a→q a)→B:=by with_reducible first|exact v'1|exact SH|exact R2):B:=k h
theorem u'S {A B:Prop} (h:A) (k:A→B:=by with_reducible exact SI):B:=k h
theorem aV {A B:Prop} (h:A) (k:A→B:=by first|with_reducible exact u'2|with_reducible exact fun h=>MB h|with_reducible exact fun h=>MA h|(refine fun h=>?_;(with_reducible first|refine u's ?_|refine u'e ?_|refine u'r ?_);(try simp only [wE,simprocAttr]);exact h)|with_reducible exact u'C (by assumption)|with_reducible exact u'D (by assumption)):B:=k h
theorem aO {A B:Prop} (h:A) (k:A→B:=by first|with_reducible exact u'2|with_reducible exact fun h=>MB h|with_reducible exact fun h=>MA h|(refine fun h=>?_;(with_reducible first|refine u's ?_|refine u'e ?_|refine u'r ?_);(try simp only [wE,simprocAttr]);exact h)|with_reducible exact u'C (by assumption)|with_reducible exact u'D (by assumption)|with_reducible exact fun h=>u'A h):B:=k h
theorem lM {A B:Prop} (h:A) (k:A→B:=by first|with_reducible exact u'2|with_reducible exact fun h=>MB h|with_reducible exact fun h=>MA h|(refine fun h=>?_;(with_reducible first|refine u's ?_|refine u'e ?_|refine u'r ?_);(try simp only [wE,simprocAttr]);exact h)|with_reducible exact u'D (by assumption)):B:=k h
theorem TC {A B:Prop} (h:A) (k:A→B:=by first|with_reducible exact u'2|with_reducible exact fun h=>MB h|with_reducible exact fun h=>MA h|(refine fun h=>?_;(with_reducible first|refine u's ?_|refine u'e ?_|refine u'r ?_);(try simp only [wE,simprocAttr]);exact h)|with_reducible exact u'D (by assumption)|with_reducible exact fun h=>u'A h):B:=k h
theorem bB {A B:Prop} (h:A) (k:A→B:=by first|with_reducible exact v'2|with_reducible exact fun h=>M9 h|with_reducible exact fun h=>M8 h|(refine fun h=>?_;(with_reducible first|refine v's ?_|refine v'e ?_|refine v'r ?_);(try simp only [wE,simprocAttr]);exact h)|with_reducible exact v'C (by assumption)|with_reducible exact v'D (by assumption)):B:=k h
theorem TA {A B:Prop} (h:A) (k:A→B:=by first|with_reducible exact v'2|with_reducible exact fun h=>M9 h|with_reducible exact fun h=>M8 h|(refine fun h=>?_;(with_reducible first|refine v's ?_|refine v'e ?_|refine v'r ?_);(try simp only [wE,simprocAttr]);exact h)|with_reducible exact v'C (by assumption)|with_reducible exact v'D (by assumption)|with_reducible exact fun h=>u'A h):B:=k h
theorem C3 {A B:Prop} (h:A) (k:A→B:=by first|with_reducible exact v'2|with_reducible exact fun h=>M9 h|with_reducible exact fun h=>M8 h|(refine fun h=>?_;(with_reducible first|refine v's ?_|refine v'e ?_|refine v'r ?_);(try simp only [wE,simprocAttr]);exact h)|with_reducible exact v'D (by assumption)):B:=k h
theorem TB {A B:Prop} (h:A) (k:A→B:=by first|with_reducible exact v'2|with_reducible exact fun h=>M9 h|with_reducible exact fun h=>M8 h|(refine fun h=>?_;(with_reducible first|refine v's ?_|refine v'e ?_|refine v'r ?_);(try simp only [wE,simprocAttr]);exact h)|with_reducible exact v'D (by assumption)|with_reducible exact fun h=>u'A h):B:=k h
theorem aR {x y C D B:Prop} (h:x→C) (h':y→D) (k:(x→C)→(y→D)→B:=by first|(intro h h';with_reducible refine u'6 (fun hg=>?_) (fun hg=>?_);(focus (try simp only [hg]);exact u'T (h hg));(focus (try simp only [hg]);exact u'T (h' hg)))):B:=k h h'
theorem aP {x y C D B:Prop} (h:x→C) (h':y→D) (k:(x→C)→(y→D)→B:=by first|(intro h h';with_reducible refine u'6 (fun hg=>?_) (fun hg=>?_);(focus (try simp only [hg]);exact u'T (h hg));(focus (try simp only [hg]);exact u'T (h' hg)))|with_reducible exact And.intro):B:=k h h'
theorem aZ {x y C D B:Prop} (h:x→C) (h':y→D) (k:(x→C)→(y→D)→B:=by first|(intro h h';with_reducible refine v'6 (fun hg=>?_) (fun hg=>?_);(focus (try simp only [hg]);exact u'T (h hg));(focus (try simp only [hg]);exact u'T (h' hg)))):B:=k h h'
theorem QZ {x y C D B:Prop} (h:x→C) (h':y→D) (k:(x→C)→(y→D)→B:=by first|(intro h h';with_reducible refine v'6 (fun hg=>?_) (fun hg=>?_);(focus (try simp only [hg]);exact u'T (h hg));(focus (try simp only [hg]);exact u'T (h' hg)))|with_reducible exact bD|with_reducible exact cV):B:=k h h'
section
variable {P:Program} {G:Nat→Option (List AV)} {n:Nat} {d:Option Tmp} {rest:List POp} {m:Option Acc} {s:AS}
theorem SJ {K:Option Acc→AS→Prop} {f:FuncId} {args:List AV} {res:AV} (h:Pure P G0 f args res) (hk:u'Z (aY P G0 n K rest (adv m [] []) (s.put d res))):bC P G0 n K d rest m s f args:=bH hG0 h (u'T hk)
end
theorem u'G {A B:Prop} (h:A) (k:A→B:=by with_reducible exact SJ (by assumption)):B:=k h
theorem u'p {A:Prop} (k:A:=by simp only [wS,simprocAttr];try exact rfl):A:=k
theorem u'q {A:Prop} (k:A:=by simp only [wS,simprocAttr]):A:=k
end Go.Proofs.YtggflhbigolakaaGreatDoor
