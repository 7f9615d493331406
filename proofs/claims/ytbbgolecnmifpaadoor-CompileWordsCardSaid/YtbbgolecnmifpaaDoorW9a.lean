import Derived.Test.YtbbgolecnmifpaaDoorR
import Derived.Test.YtbbgolecnmifpaaDoorW0b
import Derived.Test.YtbbgolecnmifpaaDoorW8
set_option linter.unusedVariables false
set_option linter.unusedSimpArgs false
namespace Go.Proofs.YtbbgolecnmifpaaDoor
open Go.AM

def tailN : Nat → Code → Code
  | 0, c => c
  | n + 1, .seq _ y => tailN n y
  | _, c => c
def withTail : Nat → Code → Code → Code
  | 0, T, _ => T
  | n + 1, T, .seq x y => .seq x (withTail n T y)
  | _, _, c => c
theorem withTail_tail : ∀ (m : Nat) (c : Code), withTail m (tailN m c) c = c
  | 0, c => by simp [withTail, tailN]
  | m + 1, c => by
    cases c <;> simp [withTail, tailN, withTail_tail m]
theorem awp_cut {P : Program} {G : Nat → Option (List AV)} {n k : Nat} {Q : Exit → AS → Prop} {s : AS} (m : Nat) {c : Code} (L : List (Nat × AV)) (h1 : ∀ T, AWp P G n k T Q ⟨mkF L, []⟩ → AWp P G n k (withTail m T c) Q s) (h2 : AWp P G n k (tailN m c) Q ⟨mkF L, []⟩) : AWp P G n k c Q s := by
  have := h1 _ h2
  rwa [withTail_tail] at this
theorem with_body {p : Code → Prop} {o : Option Code} {c : Code} (h : o = some c) (hp : p c) : ∀ c', o = some c' → p c' := fun c' h' => by
  rw [h] at h'
  cases h'
  exact hp
set_option maxRecDepth 100000
set_option maxHeartbeats 4000000 in
theorem tail_A {n kd x y : Int} (h : Okay n kd x y) (hc : opC n y ≠ 0) : ∀ c, Tryd.f7.body = some c → AWp Tryd.prog G0 Tryd.f7.ntmps 0 (tailN 6 c) (bodyA Tryd.prog Tryd.f7 fun v _ => v = .bool true) ⟨mkF [(6, .bool false), (7, .int .i64 n), (8, .int .i64 x), (9, .int .i64 y), (10, .int .i64 kd)], []⟩ := by
  refine with_body rfl ?_
  simp only [tailN, Tryd.ntmps7]
  have z9 : ((0 : Int) == 0) = true := rfl
  have z8 : ((0 : Int) != 0) = false := rfl
  have hB := bin_30 n kd x y
  have hO := op_31 h
  have hF := Fold_e h
  have hC := cmp_got h
  have hT := truth_32 n h.lo h.hi
  have hc1 : (opC n y != 0) = true := by simpa using hc
  have hp : plainV n kd x y = eF n kd x y := if_neg hc
  rw [if_neg hc, hp] at hC
  rw [hp] at hF
  repeat' (first | (refine awp_seq_k fun _ _ => ?_) | (refine awp_block ?_) | ((first | (refine awp_rgn ?_) | (refine awp_any (by kernel_rfl) (by kernel_rfl) ?_) | (refine awp_cond_k fun _ _ _ _ => ?_)) <;> simp only [amS, amL, tyS, amB, Nat.reduceLT, Nat.reduceEqDiff, Nat.reduceAdd, Nat.reduceMul, Nat.reduceSub, Nat.reduceLeDiff, reduceCtorEq, Int.reduceToNat, Int.reduceLE, Int.reduceLT, Int.le_refl, Int.toNat_natCast, ndV]) | (refine guard_split (fun hg => ?_) (fun hg => ?_) <;> simp only [hg, amS, amL, tyS, amB, Nat.reduceLT, Nat.reduceEqDiff, Nat.reduceAdd, Nat.reduceMul, Nat.reduceSub, Nat.reduceLeDiff, reduceCtorEq, Int.reduceToNat, Int.reduceLE, Int.reduceLT, Int.le_refl, Int.toNat_natCast, ndV]) | (refine awp_skip ?_; simp only [amS]) | (refine awp_exit ?_; simp only [amS, if_true, if_false, Nat.reduceEqDiff]) | (refine awp_ret ?_; try simp only [amS]) | (refine Cont.go (by assumption) ?_) | (refine Arm.go (by assumption) ?_))
  refine callR_tree hG0 hB ?_
  simp only [amS, amL, tyS, amB, Nat.reduceLT, Nat.reduceEqDiff, Nat.reduceAdd, Nat.reduceMul, Nat.reduceSub, Nat.reduceLeDiff, reduceCtorEq, Int.reduceToNat, Int.reduceLE, Int.reduceLT, Int.le_refl, Int.toNat_natCast, ndV, eV, eF, blkO, blkS, z8, z9, hc1]
  repeat' (first | (refine awp_seq_k fun _ _ => ?_) | (refine awp_block ?_) | ((first | (refine awp_rgn ?_) | (refine awp_any (by kernel_rfl) (by kernel_rfl) ?_) | (refine awp_cond_k fun _ _ _ _ => ?_)) <;> simp only [amS, amL, tyS, amB, Nat.reduceLT, Nat.reduceEqDiff, Nat.reduceAdd, Nat.reduceMul, Nat.reduceSub, Nat.reduceLeDiff, reduceCtorEq, Int.reduceToNat, Int.reduceLE, Int.reduceLT, Int.le_refl, Int.toNat_natCast, ndV, eV]) | (refine guard_split (fun hg => ?_) (fun hg => ?_) <;> simp only [hg, amS, amL, tyS, amB, Nat.reduceLT, Nat.reduceEqDiff, Nat.reduceAdd, Nat.reduceMul, Nat.reduceSub, Nat.reduceLeDiff, reduceCtorEq, Int.reduceToNat, Int.reduceLE, Int.reduceLT, Int.le_refl, Int.toNat_natCast, ndV, eV]) | (refine awp_skip ?_; simp only [amS]) | (refine awp_exit ?_; simp only [amS, if_true, if_false, Nat.reduceEqDiff]) | (refine awp_ret ?_; try simp only [amS]) | (refine Cont.go (by assumption) ?_) | (refine Arm.go (by assumption) ?_))
  refine callR_tree hG0 hO ?_
  simp only [amS, amL, tyS, amB, Nat.reduceLT, Nat.reduceEqDiff, Nat.reduceAdd, Nat.reduceMul, Nat.reduceSub, Nat.reduceLeDiff, reduceCtorEq, Int.reduceToNat, Int.reduceLE, Int.reduceLT, Int.le_refl, Int.toNat_natCast, ndV, eV, eF, blkO, blkS, z8, z9, hc1]
  repeat' (first | (refine awp_seq_k fun _ _ => ?_) | (refine awp_block ?_) | ((first | (refine awp_rgn ?_) | (refine awp_any (by kernel_rfl) (by kernel_rfl) ?_) | (refine awp_cond_k fun _ _ _ _ => ?_)) <;> simp only [amS, amL, tyS, amB, Nat.reduceLT, Nat.reduceEqDiff, Nat.reduceAdd, Nat.reduceMul, Nat.reduceSub, Nat.reduceLeDiff, reduceCtorEq, Int.reduceToNat, Int.reduceLE, Int.reduceLT, Int.le_refl, Int.toNat_natCast, ndV, eV]) | (refine guard_split (fun hg => ?_) (fun hg => ?_) <;> simp only [hg, amS, amL, tyS, amB, Nat.reduceLT, Nat.reduceEqDiff, Nat.reduceAdd, Nat.reduceMul, Nat.reduceSub, Nat.reduceLeDiff, reduceCtorEq, Int.reduceToNat, Int.reduceLE, Int.reduceLT, Int.le_refl, Int.toNat_natCast, ndV, eV]) | (refine awp_skip ?_; simp only [amS]) | (refine awp_exit ?_; simp only [amS, if_true, if_false, Nat.reduceEqDiff]) | (refine awp_ret ?_; try simp only [amS]) | (refine Cont.go (by assumption) ?_) | (refine Arm.go (by assumption) ?_))
  refine callR_tree hG0 hF ?_
  simp only [amS, amL, tyS, amB, Nat.reduceLT, Nat.reduceEqDiff, Nat.reduceAdd, Nat.reduceMul, Nat.reduceSub, Nat.reduceLeDiff, reduceCtorEq, Int.reduceToNat, Int.reduceLE, Int.reduceLT, Int.le_refl, Int.toNat_natCast, ndV, eV, eF, blkO, blkS, z8, z9, hc1]
  repeat' (first | (refine awp_seq_k fun _ _ => ?_) | (refine awp_block ?_) | ((first | (refine awp_rgn ?_) | (refine awp_any (by kernel_rfl) (by kernel_rfl) ?_) | (refine awp_cond_k fun _ _ _ _ => ?_)) <;> simp only [amS, amL, tyS, amB, Nat.reduceLT, Nat.reduceEqDiff, Nat.reduceAdd, Nat.reduceMul, Nat.reduceSub, Nat.reduceLeDiff, reduceCtorEq, Int.reduceToNat, Int.reduceLE, Int.reduceLT, Int.le_refl, Int.toNat_natCast, ndV, eV, eF, hc1, z8]) | (refine guard_split (fun hg => ?_) (fun hg => ?_) <;> simp only [hg, amS, amL, tyS, amB, Nat.reduceLT, Nat.reduceEqDiff, Nat.reduceAdd, Nat.reduceMul, Nat.reduceSub, Nat.reduceLeDiff, reduceCtorEq, Int.reduceToNat, Int.reduceLE, Int.reduceLT, Int.le_refl, Int.toNat_natCast, ndV, eV, eF, hc1, z8]) | (refine awp_skip ?_; simp only [amS]) | (refine awp_exit ?_; simp only [amS, if_true, if_false, Nat.reduceEqDiff]) | (refine awp_ret ?_; try simp only [amS]) | (refine Cont.go (by assumption) ?_) | (refine Arm.go (by assumption) ?_))
  refine callR_tree hG0 hC ?_
  simp only [amS, amL, tyS, amB, Nat.reduceLT, Nat.reduceEqDiff, Nat.reduceAdd, Nat.reduceMul, Nat.reduceSub, Nat.reduceLeDiff, reduceCtorEq, Int.reduceToNat, Int.reduceLE, Int.reduceLT, Int.le_refl, Int.toNat_natCast, ndV, eV, eF, blkO, blkS, z8, z9, hc1]
  repeat' (first | (refine awp_seq_k fun _ _ => ?_) | (refine awp_block ?_) | ((first | (refine awp_rgn ?_) | (refine awp_any (by kernel_rfl) (by kernel_rfl) ?_) | (refine awp_cond_k fun _ _ _ _ => ?_)) <;> simp only [amS, amL, tyS, amB, Nat.reduceLT, Nat.reduceEqDiff, Nat.reduceAdd, Nat.reduceMul, Nat.reduceSub, Nat.reduceLeDiff, reduceCtorEq, Int.reduceToNat, Int.reduceLE, Int.reduceLT, Int.le_refl, Int.toNat_natCast, ndV, eV, eF, z9]) | (refine guard_split (fun hg => ?_) (fun hg => ?_) <;> simp only [hg, amS, amL, tyS, amB, Nat.reduceLT, Nat.reduceEqDiff, Nat.reduceAdd, Nat.reduceMul, Nat.reduceSub, Nat.reduceLeDiff, reduceCtorEq, Int.reduceToNat, Int.reduceLE, Int.reduceLT, Int.le_refl, Int.toNat_natCast, ndV, eV, eF, z9]) | (refine awp_skip ?_; simp only [amS]) | (refine awp_exit ?_; simp only [amS, if_true, if_false, Nat.reduceEqDiff]) | (refine awp_ret ?_; try simp only [amS]) | (refine Cont.go (by assumption) ?_) | (refine Arm.go (by assumption) ?_))
  refine callR_tree hG0 lives_ok ?_
  simp only [amS, amL, tyS, amB, Nat.reduceLT, Nat.reduceEqDiff, Nat.reduceAdd, Nat.reduceMul, Nat.reduceSub, Nat.reduceLeDiff, reduceCtorEq, Int.reduceToNat, Int.reduceLE, Int.reduceLT, Int.le_refl, Int.toNat_natCast, ndV, eV, eF, blkO, blkS, z8, z9, hc1]
  repeat' (first | (refine awp_seq_k fun _ _ => ?_) | (refine awp_block ?_) | ((first | (refine awp_rgn ?_) | (refine awp_any (by kernel_rfl) (by kernel_rfl) ?_) | (refine awp_cond_k fun _ _ _ _ => ?_)) <;> simp only [amS, amL, tyS, amB, Nat.reduceLT, Nat.reduceEqDiff, Nat.reduceAdd, Nat.reduceMul, Nat.reduceSub, Nat.reduceLeDiff, reduceCtorEq, Int.reduceToNat, Int.reduceLE, Int.reduceLT, Int.le_refl, Int.toNat_natCast, ndV, eV]) | (refine guard_split (fun hg => ?_) (fun hg => ?_) <;> simp only [hg, amS, amL, tyS, amB, Nat.reduceLT, Nat.reduceEqDiff, Nat.reduceAdd, Nat.reduceMul, Nat.reduceSub, Nat.reduceLeDiff, reduceCtorEq, Int.reduceToNat, Int.reduceLE, Int.reduceLT, Int.le_refl, Int.toNat_natCast, ndV, eV]) | (refine awp_skip ?_; simp only [amS]) | (refine awp_exit ?_; simp only [amS, if_true, if_false, Nat.reduceEqDiff]) | (refine awp_ret ?_; try simp only [amS]) | (refine Cont.go (by assumption) ?_) | (refine Arm.go (by assumption) ?_))
  refine body_ret1 rfl ?_
  simp only [amS, if_true, if_false]

end Go.Proofs.YtbbgolecnmifpaaDoor
