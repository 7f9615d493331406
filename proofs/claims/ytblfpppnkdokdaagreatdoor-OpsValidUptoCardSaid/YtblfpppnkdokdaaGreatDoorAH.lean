import Derived.Test.YtblfpppnkdokdaaGreatDoorG
import Derived.Test.YtblfpppnkdokdaaGreatDoorAE
set_option linter.unusedVariables false
namespace Go.Proofs.YtblfpppnkdokdaaGreatDoor
open Go.AM
@[reducible] def lastX : Code → Option Exit
  | .skip => some .normal
  | .exit id => some (.exit id)
  | .ret => some .ret
  | _ => none
section
variable [Rnd] {P : Program} {G : Nat → Option (List AV)} {n k : Nat} {Q : Exit → AS → Prop} {s : AS}
theorem u'1 {x y : Code} (h : ∀ K : AS → Prop, Cont P G n k y Q K → AWp P G n k x (athen K Q) s) : AWp P G n k (.seq x y) Q s := awp_seq_k h
theorem u'2 {id : Nat} {c : Code} (h : AWp P G n k c (ablock id Q) s) : AWp P G n k (.block id c) Q s := awp_block h
theorem u'3 {id : Nat} {ops : Array Oper} (h : rgnS P G n (fun _ => Q .normal) (strip ops) none s) : AWp P G n k (.region id ops false) Q s := awp_rgn h
theorem u'4 {rid : Nat} {ops : Array Oper} (h : rgnS P G n (fun m s' => chkM ops m ∧ Q .normal s') (strip ops) (some []) s) (hm : P.follows .mixedOrders = true := by kernel_rfl) (hs : slotsOK ops = true := by kernel_rfl) : AWp P G n k (.region rid ops true) Q s := awp_any hm hs h
theorem u'5 {c : Operand} {x y : Code} (h : ∀ X Y : Prop, Arm P G n k x Q s X → Arm P G n k y Q s Y → condP X Y (evA G s.get c)) : AWp P G n k (.cond c x y) Q s := awp_cond_k h
theorem u's (h : Q .normal s) : AWp P G n k .skip Q s := awp_skip h
theorem u'e {id : Nat} (h : Q (.exit id) s) : AWp P G n k (.exit id) Q s := awp_exit h
theorem u'r (h : Q .ret s) : AWp P G n k .ret Q s := awp_ret h
theorem u'8 {y : Code} {K : AS → Prop} (h : AWp P G n k y Q s) (c : Cont P G n k y Q K := by assumption) : K s := c s h
theorem u'9 {y : Code} {X : Prop} (h : AWp P G n k y Q s) (c : Arm P G n k y Q s X := by assumption) : X := c h
variable {ι : Type} {R : ι → Prop} {Q : ι → Exit → AS → Prop}
theorem v's (h : EG R (fun i => Q i .normal s)) : EG R (fun i => AWp P G n k .skip (Q i) s) := h.mono fun _ q => awp_skip q
theorem v'e {id : Nat} (h : EG R (fun i => Q i (.exit id) s)) : EG R (fun i => AWp P G n k (.exit id) (Q i) s) := h.mono fun _ q => awp_exit q
theorem v'r (h : EG R (fun i => Q i .ret s)) : EG R (fun i => AWp P G n k .ret (Q i) s) := h.mono fun _ q => awp_ret q
theorem v'8 {y : Code} {K : ι → AS → Prop} (h : EG R (fun i => AWp P G n k y (Q i) s)) (c : ContE P G n k R y Q K := by assumption) : EG R (fun i => K i s) := c s h
theorem v'9 {y : Code} {X : ι → Prop} (h : EG R (fun i => AWp P G n k y (Q i) s)) (c : ArmE P G n k R y Q s X := by assumption) : EG R X := c h
theorem v'1 {x y : Code} (h : ∀ K : ι → AS → Prop, ContE P G n k R y Q K → EG R (fun i => AWp P G n k x (athen (K i) (Q i)) s)) : EG R (fun i => AWp P G n k (.seq x y) (Q i) s) := eg_seq_k h
theorem v'2 {id : Nat} {c : Code} (h : EG R (fun i => AWp P G n k c (ablock id (Q i)) s)) : EG R (fun i => AWp P G n k (.block id c) (Q i) s) := eg_block h
theorem v'3 {id : Nat} {ops : Array Oper} (h : EG R (fun i => rgnS P G n (fun _ => Q i .normal) (strip ops) none s)) : EG R (fun i => AWp P G n k (.region id ops false) (Q i) s) := eg_rgn h
theorem v'4 {id : Nat} {ops : Array Oper} (h : EG R (fun i => rgnS P G n (fun m s' => chkM ops m ∧ Q i .normal s') (strip ops) (some []) s)) (hm : P.follows .mixedOrders = true := by kernel_rfl) (hs : slotsOK ops = true := by kernel_rfl) : EG R (fun i => AWp P G n k (.region id ops true) (Q i) s) := eg_any hm hs h
theorem v'5 {c : Operand} {x y : Code} (h : ∀ X Y : ι → Prop, ArmE P G n k R x Q s X → ArmE P G n k R y Q s Y → EG R (fun i => condP (X i) (Y i) (evA G s.get c))) : EG R (fun i => AWp P G n k (.cond c x y) (Q i) s) := eg_cond_k h
end
section
variable {P : Program} {G : Nat → Option (List AV)} {n : Nat} {d : Option Tmp} {rest : List POp} {m : Option Acc} {s : AS}
theorem u'6 {K : Option Acc → AS → Prop} {op : Op} {want b : Bool} (ht : b = true → guardR P G n K d rest m s op want (.bool true)) (hf : b = false → guardR P G n K d rest m s op want (.bool false)) : guardR P G n K d rest m s op want (.bool b) := guard_split ht hf
theorem v'6 {ι : Type} {R : ι → Prop} {K : ι → Option Acc → AS → Prop} {op : Op} {want b : Bool} (ht : b = true → EG R (fun i => guardR P G n (K i) d rest m s op want (.bool true))) (hf : b = false → EG R (fun i => guardR P G n (K i) d rest m s op want (.bool false))) : EG R (fun i => guardR P G n (K i) d rest m s op want (.bool b)) := eg_guard ht hf
end
theorem wS : type_of% (And.intro amS (And.intro amL (And.intro tyS (And.intro amB (And.intro @Int.le_refl @Int.toNat_natCast))))) := And.intro amS (And.intro amL (And.intro tyS (And.intro amB (And.intro @Int.le_refl @Int.toNat_natCast))))
theorem wE : type_of% (And.intro amS amB) := And.intro amS amB
end Go.Proofs.YtblfpppnkdokdaaGreatDoor
