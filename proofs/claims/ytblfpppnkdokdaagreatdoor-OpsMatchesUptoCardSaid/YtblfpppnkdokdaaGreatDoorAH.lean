import Derived.Test.YtblfpppnkdokdaaGreatDoorG
import Derived.Test.YtblfpppnkdokdaaGreatDoorAE
set_option linter.unusedVariables false
namespace Go.Proofs.YtblfpppnkdokdaaGreatDoor
open Go.AM
@[reducible] def RL : Code → Option Exit
 | .skip => some .normal
 | .exit id => some (.exit id)
 | .ret => some .ret
 | _ => none
section
variable [Rnd] {P : Program} {G : Nat → Option (List AV)} {n k : Nat} {Q : Exit → AS → Prop} {s : AS}
theorem u'1 {x y : Code} (h : ∀ K : AS → Prop, Cont P G n k y Q K → AWp P G n k x (fF K Q) s) : AWp P G n k (.seq x y) Q s := HE h
theorem u'2 {id : Nat} {c : Code} (h : AWp P G n k c (gO id Q) s) : AWp P G n k (.block id c) Q s := jQ h
theorem u'3 {id : Nat} {ops : Array Oper} (h : aP P G n (fun _ => Q .normal) (dY ops) none s) : AWp P G n k (.region id ops false) Q s := pH h
theorem u'4 {rid : Nat} {ops : Array Oper} (h : aP P G n (fun m s' => HA ops m ∧ Q .normal s') (dY ops) (some []) s) (hm : P.follows .mixedOrders = true := by kernel_rfl) (hs : gQ ops = true := by kernel_rfl) : AWp P G n k (.region rid ops true) Q s := AN hm hs h
theorem u'5 {c : Operand} {x y : Code} (h : ∀ X Y : Prop, Arm P G n k x Q s X → Arm P G n k y Q s Y → kT X Y (evA G s.get c)) : AWp P G n k (.cond c x y) Q s := ES h
theorem u's (h : Q .normal s) : AWp P G n k .skip Q s := uW h
theorem u'e {id : Nat} (h : Q (.exit id) s) : AWp P G n k (.exit id) Q s := pI h
theorem u'r (h : Q .ret s) : AWp P G n k .ret Q s := rX h
theorem u'8 {y : Code} {K : AS → Prop} (h : AWp P G n k y Q s) (c : Cont P G n k y Q K := by assumption) : K s := c s h
theorem u'9 {y : Code} {X : Prop} (h : AWp P G n k y Q s) (c : Arm P G n k y Q s X := by assumption) : X := c h
variable {ι : Type} {R : ι → Prop} {Q : ι → Exit → AS → Prop}
theorem v's (h : EG R (fun i => Q i .normal s)) : EG R (fun i => AWp P G n k .skip (Q i) s) := h.mono fun _ q => uW q
theorem v'e {id : Nat} (h : EG R (fun i => Q i (.exit id) s)) : EG R (fun i => AWp P G n k (.exit id) (Q i) s) := h.mono fun _ q => pI q
theorem v'r (h : EG R (fun i => Q i .ret s)) : EG R (fun i => AWp P G n k .ret (Q i) s) := h.mono fun _ q => rX q
theorem v'8 {y : Code} {K : ι → AS → Prop} (h : EG R (fun i => AWp P G n k y (Q i) s)) (c : ContE P G n k R y Q K := by assumption) : EG R (fun i => K i s) := c s h
theorem v'9 {y : Code} {X : ι → Prop} (h : EG R (fun i => AWp P G n k y (Q i) s)) (c : ArmE P G n k R y Q s X := by assumption) : EG R X := c h
theorem v'1 {x y : Code} (h : ∀ K : ι → AS → Prop, ContE P G n k R y Q K → EG R (fun i => AWp P G n k x (fF (K i) (Q i)) s)) : EG R (fun i => AWp P G n k (.seq x y) (Q i) s) := cY h
theorem v'2 {id : Nat} {c : Code} (h : EG R (fun i => AWp P G n k c (gO id (Q i)) s)) : EG R (fun i => AWp P G n k (.block id c) (Q i) s) := K6 h
theorem v'3 {id : Nat} {ops : Array Oper} (h : EG R (fun i => aP P G n (fun _ => Q i .normal) (dY ops) none s)) : EG R (fun i => AWp P G n k (.region id ops false) (Q i) s) := PK h
theorem v'4 {id : Nat} {ops : Array Oper} (h : EG R (fun i => aP P G n (fun m s' => HA ops m ∧ Q i .normal s') (dY ops) (some []) s)) (hm : P.follows .mixedOrders = true := by kernel_rfl) (hs : gQ ops = true := by kernel_rfl) : EG R (fun i => AWp P G n k (.region id ops true) (Q i) s) := PL hm hs h
theorem v'5 {c : Operand} {x y : Code} (h : ∀ X Y : ι → Prop, ArmE P G n k R x Q s X → ArmE P G n k R y Q s Y → EG R (fun i => kT (X i) (Y i) (evA G s.get c))) : EG R (fun i => AWp P G n k (.cond c x y) (Q i) s) := H7 h
end
section
variable {P : Program} {G : Nat → Option (List AV)} {n : Nat} {d : Option Tmp} {rest : List POp} {m : Option Acc} {s : AS}
theorem u'6 {K : Option Acc → AS → Prop} {op : Op} {want b : Bool} (ht : b = true → aI P G n K d rest m s op want (.bool true)) (hf : b = false → aI P G n K d rest m s op want (.bool false)) : aI P G n K d rest m s op want (.bool b) := CK ht hf
theorem v'6 {ι : Type} {R : ι → Prop} {K : ι → Option Acc → AS → Prop} {op : Op} {want b : Bool} (ht : b = true → EG R (fun i => aI P G n (K i) d rest m s op want (.bool true))) (hf : b = false → EG R (fun i => aI P G n (K i) d rest m s op want (.bool false))) : EG R (fun i => aI P G n (K i) d rest m s op want (.bool b)) := JZ ht hf
end
theorem wS : type_of% (And.intro amS (And.intro amL (And.intro tyS (And.intro amB (And.intro @Int.le_refl @Int.toNat_natCast))))) := And.intro amS (And.intro amL (And.intro tyS (And.intro amB (And.intro @Int.le_refl @Int.toNat_natCast))))
theorem wE : type_of% (And.intro amS amB) := And.intro amS amB
section
variable [Rnd] {P : Program} {G : Nat → Option (List AV)} {n k : Nat} {Q : Exit → AS → Prop} {s : AS} {y : Code}
theorem u'C {K : AS → Prop} (c : Cont P G n k y Q K) (h : AWp P G n k y Q s) : K s := c s h
theorem u'D {X : Prop} (c : Arm P G n k y Q s X) (h : AWp P G n k y Q s) : X := c h
variable {ι : Type} {R : ι → Prop} {Q : ι → Exit → AS → Prop}
theorem v'C {K : ι → AS → Prop} (c : ContE P G n k R y Q K) (h : EG R (fun i => AWp P G n k y (Q i) s)) : EG R (fun i => K i s) := c s h
theorem v'D {X : ι → Prop} (c : ArmE P G n k R y Q s X) (h : EG R (fun i => AWp P G n k y (Q i) s)) : EG R X := c h
end
theorem u'R {A B : Prop} (h : A) (k : A → B := by with_reducible first | exact fun h => u'3 h | exact fun h => u'4 h) : B := k h
theorem v'R {A B : Prop} (h : A) (k : A → B := by with_reducible first | exact fun h => v'3 h | exact fun h => v'4 h) : B := k h
theorem u'X {A B : Prop} (h : A) (k : A → B := by first | with_reducible exact u'2 | (refine fun h => ?_; (with_reducible first | refine u's ?_ | refine u'e ?_ | refine u'r ?_); (try simp only [wE, simprocAttr]); exact h) | with_reducible exact u'D (by assumption)) : B := k h
theorem u'W {A B : Prop} (h : A) (k : A → B := by first | with_reducible exact u'2 | (refine fun h => ?_; (with_reducible first | refine u's ?_ | refine u'e ?_ | refine u'r ?_); (try simp only [wE, simprocAttr]); exact h) | with_reducible exact u'C (by assumption) | with_reducible exact u'D (by assumption)) : B := k h
theorem v'X {A B : Prop} (h : A) (k : A → B := by first | with_reducible exact v'2 | (refine fun h => ?_; (with_reducible first | refine v's ?_ | refine v'e ?_ | refine v'r ?_); (try simp only [wE, simprocAttr]); exact h) | with_reducible exact v'D (by assumption)) : B := k h
theorem v'W {A B : Prop} (h : A) (k : A → B := by first | with_reducible exact v'2 | (refine fun h => ?_; (with_reducible first | refine v's ?_ | refine v'e ?_ | refine v'r ?_); (try simp only [wE, simprocAttr]); exact h) | with_reducible exact v'C (by assumption) | with_reducible exact v'D (by assumption)) : B := k h
theorem u'A {a b : Prop} (h : b) (k : a := by kernel_rfl) : a ∧ b := ⟨k, h⟩
end Go.Proofs.YtblfpppnkdokdaaGreatDoor
