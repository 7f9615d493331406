import Derived.Test.YtgenkkejlggmnaaB25
set_option linter.unusedVariables false
set_option linter.unusedSimpArgs false
namespace Go.Proofs.Ytgenkkejlggmnaa
open Go.AM

def exL : List V := [⟨0, []⟩, ⟨1, [0]⟩, ⟨2, [0]⟩, ⟨3, [1, 2]⟩]
theorem ex_first : guiltyB exL 3 [2, 3] = [2] := by kernel_rfl
theorem ex_dfs : dfsV exL [2, 3] 5 3 [] = some [3, 1, 2, 0] := by kernel_rfl
theorem ex_next : nextB exL 3 [] [] = (1, 0) := by kernel_rfl
theorem ex_next2 : nextB exL 3 [3] [] = (0, 21) := by kernel_rfl
theorem ex_err : errB exL 4 = 6 := by kernel_rfl
theorem ex_err3 : errB exL 3 = 0 := by kernel_rfl
theorem ex_val : valGo exL [] (-1) = true := by kernel_rfl
theorem ex_val1 : valGo [⟨1, [0]⟩, ⟨2, [0]⟩, ⟨3, [1, 2]⟩] [] (-1) = false := by kernel_rfl
theorem ex_past : pastB exL 3 = [0, 1, 2, 3] := by kernel_rfl
theorem ex_b : ∀ v ∈ exL, v.before.length ≤ 1000 := by decide
theorem ex_b1 : ∀ v ∈ ([⟨1, [0]⟩, ⟨2, [0]⟩, ⟨3, [1, 2]⟩] : List V), v.before.length ≤ 1000 := by decide
theorem ex_ids : ∀ v ∈ exL, ∀ b ∈ v.before, hasL (exL.map (·.id)) b = true := by decide
theorem ex_S : ∀ x ∈ idsF (setB exL 3), hasL (exL.map (·.id)) x = true := by
  have : idsF (setB exL 3) = [0, 1, 2, 3] := by kernel_rfl
  rw [this]; decide

theorem lives_15 : Pure Try.prog G0 15 [] (.bool true) := by
  refine pure_of_body hG0 Try.func15 rfl (by kernel_rfl) (by simp [Try.ntmps15]) (by simp [inL]) (by simp [inR]) ?_
  simp only [Try.ntmps15, enterF, Nat.reduceAdd]
  refine awp_seq_k fun _ _ => ?_
  refine awp_rgn ?_
  simp only [amS, amL, tyS, amB, Nat.reduceLT, Nat.reduceEqDiff, Nat.reduceAdd, Nat.reduceMul, Nat.reduceSub, Nat.reduceLeDiff, reduceCtorEq]
  refine Cont.go (by assumption) ?_
  refine awp_seq_k fun _ _ => ?_
  refine awp_rgn ?_
  simp only [amS, amL, tyS, amB, Nat.reduceLT, Nat.reduceEqDiff, Nat.reduceAdd, Nat.reduceMul, Nat.reduceSub, Nat.reduceLeDiff, reduceCtorEq]
  refine Cont.go (by assumption) ?_
  refine awp_freeze [] [(1, encVs exL)] [] rfl ?_ (by simp only [amS, amL, tyS, amB, Nat.reduceLT, Nat.reduceEqDiff, Nat.reduceAdd, Nat.reduceMul, Nat.reduceSub, Nat.reduceLeDiff, reduceCtorEq]; trivial) ?_
  · refine ⟨.inr ?_, trivial⟩
    simp only [amS, amL, tyS, amB, Nat.reduceLT, Nat.reduceEqDiff, Nat.reduceAdd, Nat.reduceMul, Nat.reduceSub, Nat.reduceLeDiff, reduceCtorEq]
    exact .weak (.same rfl)
  repeat' (first | (refine awp_seq_k fun _ _ => ?_) | (refine awp_block ?_) | ((first | (refine awp_rgn ?_) | (refine awp_any (by kernel_rfl) (by kernel_rfl) ?_) | (refine awp_cond_k fun _ _ _ _ => ?_)) <;> simp only [amS, amL, tyS, amB, Nat.reduceLT, Nat.reduceEqDiff, Nat.reduceAdd, Nat.reduceMul, Nat.reduceSub, Nat.reduceLeDiff, reduceCtorEq]) | (refine guard_split (fun hg => ?_) (fun hg => ?_) <;> simp only [hg, amS, amL, tyS, amB, Nat.reduceLT, Nat.reduceEqDiff, Nat.reduceAdd, Nat.reduceMul, Nat.reduceSub, Nat.reduceLeDiff, reduceCtorEq]) | (refine awp_skip ?_; simp only [amS]) | (refine awp_exit ?_; simp only [amS, if_true, if_false, Nat.reduceEqDiff]) | (refine awp_ret ?_; try simp only [amS]) | (refine Cont.go (by assumption) ?_) | (refine Arm.go (by assumption) ?_))
  refine callR_tree hG0 (Pure.lend hG0 (first_18 exL 3 [2, 3] 5 _ ex_dfs (by simp) (by decide) ex_b (by unfold Small; simp) ex_err3 ex_ids ex_S) (.cons (.same (tree_encVs _)) (.cons (.same rfl) (.cons (.full rfl) .nil)))) ?_
  rw [ex_first]
  simp only [amS, amL, tyS, amB, Nat.reduceLT, Nat.reduceEqDiff, Nat.reduceAdd, Nat.reduceMul, Nat.reduceSub, Nat.reduceLeDiff, reduceCtorEq]
  repeat' (first | (refine awp_seq_k fun _ _ => ?_) | (refine awp_block ?_) | ((first | (refine awp_rgn ?_) | (refine awp_any (by kernel_rfl) (by kernel_rfl) ?_) | (refine awp_cond_k fun _ _ _ _ => ?_)) <;> simp only [amS, amL, tyS, amB, Nat.reduceLT, Nat.reduceEqDiff, Nat.reduceAdd, Nat.reduceMul, Nat.reduceSub, Nat.reduceLeDiff, reduceCtorEq]) | (refine guard_split (fun hg => ?_) (fun hg => ?_) <;> simp only [hg, amS, amL, tyS, amB, Nat.reduceLT, Nat.reduceEqDiff, Nat.reduceAdd, Nat.reduceMul, Nat.reduceSub, Nat.reduceLeDiff, reduceCtorEq]) | (refine awp_skip ?_; simp only [amS]) | (refine awp_exit ?_; simp only [amS, if_true, if_false, Nat.reduceEqDiff]) | (refine awp_ret ?_; try simp only [amS]) | (refine Cont.go (by assumption) ?_) | (refine Arm.go (by assumption) ?_))
  refine callR_tree hG0 (Pure.lend hG0 (next_20 exL 3 [] [] (by decide) ex_b (by unfold Small; simp) (by unfold Small; simp)) (.cons (.same (tree_encVs _)) (.cons (.same rfl) (.cons (.full rfl) (.cons (.full rfl) .nil))))) ?_
  rw [ex_next]
  simp only [amS, amL, tyS, amB, Nat.reduceLT, Nat.reduceEqDiff, Nat.reduceAdd, Nat.reduceMul, Nat.reduceSub, Nat.reduceLeDiff, reduceCtorEq]
  repeat' (first | (refine awp_seq_k fun _ _ => ?_) | (refine awp_block ?_) | ((first | (refine awp_rgn ?_) | (refine awp_any (by kernel_rfl) (by kernel_rfl) ?_) | (refine awp_cond_k fun _ _ _ _ => ?_)) <;> simp only [amS, amL, tyS, amB, Nat.reduceLT, Nat.reduceEqDiff, Nat.reduceAdd, Nat.reduceMul, Nat.reduceSub, Nat.reduceLeDiff, reduceCtorEq]) | (refine guard_split (fun hg => ?_) (fun hg => ?_) <;> simp only [hg, amS, amL, tyS, amB, Nat.reduceLT, Nat.reduceEqDiff, Nat.reduceAdd, Nat.reduceMul, Nat.reduceSub, Nat.reduceLeDiff, reduceCtorEq]) | (refine awp_skip ?_; simp only [amS]) | (refine awp_exit ?_; simp only [amS, if_true, if_false, Nat.reduceEqDiff]) | (refine awp_ret ?_; try simp only [amS]) | (refine Cont.go (by assumption) ?_) | (refine Arm.go (by assumption) ?_))
  refine callR_tree hG0 (Pure.lend hG0 (next_20 exL 3 [3] [] (by decide) ex_b (by unfold Small; simp) (by unfold Small; simp)) (.cons (.same (tree_encVs _)) (.cons (.same rfl) (.cons (.full rfl) (.cons (.full rfl) .nil))))) ?_
  rw [ex_next2]
  simp only [amS, amL, tyS, amB, Nat.reduceLT, Nat.reduceEqDiff, Nat.reduceAdd, Nat.reduceMul, Nat.reduceSub, Nat.reduceLeDiff, reduceCtorEq]
  repeat' (first | (refine awp_seq_k fun _ _ => ?_) | (refine awp_block ?_) | ((first | (refine awp_rgn ?_) | (refine awp_any (by kernel_rfl) (by kernel_rfl) ?_) | (refine awp_cond_k fun _ _ _ _ => ?_)) <;> simp only [amS, amL, tyS, amB, Nat.reduceLT, Nat.reduceEqDiff, Nat.reduceAdd, Nat.reduceMul, Nat.reduceSub, Nat.reduceLeDiff, reduceCtorEq]) | (refine guard_split (fun hg => ?_) (fun hg => ?_) <;> simp only [hg, amS, amL, tyS, amB, Nat.reduceLT, Nat.reduceEqDiff, Nat.reduceAdd, Nat.reduceMul, Nat.reduceSub, Nat.reduceLeDiff, reduceCtorEq]) | (refine awp_skip ?_; simp only [amS]) | (refine awp_exit ?_; simp only [amS, if_true, if_false, Nat.reduceEqDiff]) | (refine awp_ret ?_; try simp only [amS]) | (refine Cont.go (by assumption) ?_) | (refine Arm.go (by assumption) ?_))
  refine callR_tree hG0 (Pure.lend hG0 (first_18e exL 4 [] (by decide) ex_b (by rw [ex_err]; simp)) (.cons (.same (tree_encVs _)) (.cons (.same rfl) (.cons (.full rfl) .nil)))) ?_
  rw [ex_err]
  simp only [amS, amL, tyS, amB, Nat.reduceLT, Nat.reduceEqDiff, Nat.reduceAdd, Nat.reduceMul, Nat.reduceSub, Nat.reduceLeDiff, reduceCtorEq]
  repeat' (first | (refine awp_seq_k fun _ _ => ?_) | (refine awp_block ?_) | ((first | (refine awp_rgn ?_) | (refine awp_any (by kernel_rfl) (by kernel_rfl) ?_) | (refine awp_cond_k fun _ _ _ _ => ?_)) <;> simp only [amS, amL, tyS, amB, Nat.reduceLT, Nat.reduceEqDiff, Nat.reduceAdd, Nat.reduceMul, Nat.reduceSub, Nat.reduceLeDiff, reduceCtorEq]) | (refine guard_split (fun hg => ?_) (fun hg => ?_) <;> simp only [hg, amS, amL, tyS, amB, Nat.reduceLT, Nat.reduceEqDiff, Nat.reduceAdd, Nat.reduceMul, Nat.reduceSub, Nat.reduceLeDiff, reduceCtorEq]) | (refine awp_skip ?_; simp only [amS]) | (refine awp_exit ?_; simp only [amS, if_true, if_false, Nat.reduceEqDiff]) | (refine awp_ret ?_; try simp only [amS]) | (refine Cont.go (by assumption) ?_) | (refine Arm.go (by assumption) ?_))
  refine callR_tree hG0 (valid_9 exL (by decide) ex_b) ?_
  rw [ex_val]
  simp only [amS, amL, tyS, amB, Nat.reduceLT, Nat.reduceEqDiff, Nat.reduceAdd, Nat.reduceMul, Nat.reduceSub, Nat.reduceLeDiff, reduceCtorEq, encVs, exL, encV, encI, Int.reduceLE, Int.reduceToNat, Nat.le_refl]
  refine callR_tree hG0 (valid_9 [⟨1, [0]⟩, ⟨2, [0]⟩, ⟨3, [1, 2]⟩] (by decide) ex_b1) ?_
  rw [ex_val1]
  simp only [amS, amL, tyS, amB, Nat.reduceLT, Nat.reduceEqDiff, Nat.reduceAdd, Nat.reduceMul, Nat.reduceSub, Nat.reduceLeDiff, reduceCtorEq, Bool.not_false]
  refine callR_tree hG0 (past_13 exL 3 (by decide) ex_b) ?_
  rw [ex_past]
  simp only [amS, amL, tyS, amB, Nat.reduceLT, Nat.reduceEqDiff, Nat.reduceAdd, Nat.reduceMul, Nat.reduceSub, Nat.reduceLeDiff, reduceCtorEq]
  refine callR_tree hG0 (Pure.lend hG0 (sameInts_12 [0, 1, 2, 3] [0, 1, 2, 3] (by unfold Small; simp)) (.cons (.same rfl) (.cons (.full rfl) .nil))) ?_
  simp only [amS, amL, tyS, amB, Nat.reduceLT, Nat.reduceEqDiff, Nat.reduceAdd, Nat.reduceMul, Nat.reduceSub, Nat.reduceLeDiff, reduceCtorEq, beq_self_eq_true]
  refine callR_tree hG0 (Pure.lend hG0 (sameInts_12 [2] [2] (by unfold Small; simp)) (.cons (.same rfl) (.cons (.full rfl) .nil))) ?_
  simp only [amS, amL, tyS, amB, Nat.reduceLT, Nat.reduceEqDiff, Nat.reduceAdd, Nat.reduceMul, Nat.reduceSub, Nat.reduceLeDiff, reduceCtorEq, beq_self_eq_true]
  refine callR_tree hG0 (Pure.lend hG0 (sameInts_12 [3, 1, 2, 0] [3, 1, 2, 0] (by unfold Small; simp)) (.cons (.same rfl) (.cons (.full rfl) .nil))) ?_
  simp only [amS, amL, tyS, amB, Nat.reduceLT, Nat.reduceEqDiff, Nat.reduceAdd, Nat.reduceMul, Nat.reduceSub, Nat.reduceLeDiff, reduceCtorEq, beq_self_eq_true]
  repeat' (first | (refine awp_seq_k fun _ _ => ?_) | (refine awp_block ?_) | ((first | (refine awp_rgn ?_) | (refine awp_any (by kernel_rfl) (by kernel_rfl) ?_) | (refine awp_cond_k fun _ _ _ _ => ?_)) <;> simp only [amS, amL, tyS, amB, Nat.reduceLT, Nat.reduceEqDiff, Nat.reduceAdd, Nat.reduceMul, Nat.reduceSub, Nat.reduceLeDiff, reduceCtorEq]) | (refine guard_split (fun hg => ?_) (fun hg => ?_) <;> simp only [hg, amS, amL, tyS, amB, Nat.reduceLT, Nat.reduceEqDiff, Nat.reduceAdd, Nat.reduceMul, Nat.reduceSub, Nat.reduceLeDiff, reduceCtorEq]) | (refine awp_skip ?_; simp only [amS]) | (refine awp_exit ?_; simp only [amS, if_true, if_false, Nat.reduceEqDiff]) | (refine awp_ret ?_; try simp only [amS]) | (refine Cont.go (by assumption) ?_) | (refine Arm.go (by assumption) ?_))
  refine body_ret1 rfl ?_
  simp only [amS, if_true, if_false]

end Go.Proofs.Ytgenkkejlggmnaa
