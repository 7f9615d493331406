import Derived.Test.YtgenkkejlggmnaaB12
set_option linter.unusedVariables false
set_option linter.unusedSimpArgs false
namespace Go.Proofs.Ytgenkkejlggmnaa
open Go.AM

def cB (p : List Bool) : List AV := p.map .bool
theorem tree_cB : ∀ (p : List Bool), inL noRef (cB p) = true
  | [] => rfl
  | b :: p => by simp only [cB, List.map_cons, inL, inR, Bool.true_and]; exact tree_cB p
def idsK (p : List Bool) (k : Nat) : List Int := List.map (fun i : Nat => (i : Int)) (List.filter (fun i => p.getD i false) (List.range k))
def idsOf (p : List Bool) : List Int := idsK p 32
theorem idsK_succ {p : List Bool} {k : Nat} {b : Bool} (h : p[k]? = some b) : idsK p (k + 1) = idsK p k ++ (if b = true then [(k : Int)] else []) := by
  unfold idsK
  rw [List.range_succ, List.filter_append, List.map_append]
  congr 1
  have : p.getD k false = b := by rw [List.getD_eq_getElem?_getD, h]; rfl
  cases b <;> simp_all
theorem idsK_len (p : List Bool) (k : Nat) : (idsK p k).length ≤ k := by
  unfold idsK
  rw [List.length_map]
  refine Nat.le_trans (List.length_filter_le _ _) ?_
  rw [List.length_range]
  exact Nat.le_refl _

theorem ids_32 (p : List Bool) (hp : p.length = 32) : Pure Try.prog G0 32 [.agg (cB p)] (encI (idsOf p)) := by
  refine pure_of_bodyW hG0 Try.func32 rfl (by kernel_rfl) (by simp [Try.ntmps32]) (by simp [inL, inR, tree_cB]) (tree_encI _) ?_
  simp only [Try.ntmps32, enterF, Nat.reduceAdd]
  have hcl : (cB p).length = 32 := by simp [cB, hp]
  have hct : (cB p).take 32 = cB p := List.take_of_length_le (by omega)
  repeat' (first | (refine awp_seq_k fun _ _ => ?_) | (refine awp_block ?_) | ((first | (refine awp_rgn ?_) | (refine awp_any (by kernel_rfl) (by kernel_rfl) ?_) | (refine awp_cond_k fun _ _ _ _ => ?_)) <;> simp only [amS, amL, tyS, amB, Nat.reduceLT, Nat.reduceEqDiff, Nat.reduceAdd, Nat.reduceMul, Nat.reduceSub, Nat.reduceLeDiff, reduceCtorEq, hcl, hct, Nat.le_refl]) | (refine guard_split (fun hg => ?_) (fun hg => ?_) <;> simp only [hg, amS, amL, tyS, amB, Nat.reduceLT, Nat.reduceEqDiff, Nat.reduceAdd, Nat.reduceMul, Nat.reduceSub, Nat.reduceLeDiff, reduceCtorEq, hcl, hct, Nat.le_refl]) | (refine awp_skip ?_; simp only [amS]) | (refine awp_exit ?_; simp only [amS, if_true, if_false, Nat.reduceEqDiff]) | (refine awp_ret ?_; try simp only [amS]) | (refine Cont.go (by assumption) ?_) | (refine Arm.go (by assumption) ?_))
  refine awp_loop_r (α := {k : Nat // k ≤ 32}) (fun k => [(3, accV [] 0 1 (cI (idsK p k.1))), (6, .agg (cB p)), (7, .int .i64 k.1)]) (fun k => accH [] [] (cI (idsK p k.1))) (fun k => 32 - k.1) ⟨0, by omega⟩ ?_ ?_
  · show Ref G0 _ 0 _ ⟨mkF [(3, accV [] 0 1 []), (6, .agg (cB p)), (7, .int .i64 ((0 : Nat) : Int))], []⟩
    refine Weak.ref ⟨?_, .inr ⟨Nat.le_refl _, rfl, fun g cs hg => (by cases hg), ?_, rfl⟩⟩
    · simp [amS, accV_nil, hcl, hct]
    · intro q hq
      simp only [List.mem_cons, List.not_mem_nil, or_false] at hq
      rcases hq with rfl | rfl | rfl
      · simp [accV_nil, inR, inE]
      · simp only [inR]; exact inL_mono (p := noRef) (fun r hr => by cases hr) (tree_cB p)
      · rfl
  · rintro ⟨k, hk⟩ K2 hK2
    repeat' (first | (refine awp_seq_k fun _ _ => ?_) | (refine awp_block ?_) | ((first | (refine awp_rgn ?_) | (refine awp_any (by kernel_rfl) (by kernel_rfl) ?_) | (refine awp_cond_k fun _ _ _ _ => ?_)) <;> simp only [amS, amL, tyS, amB, Nat.reduceLT, Nat.reduceEqDiff, Nat.reduceAdd, Nat.reduceMul, Nat.reduceSub, Nat.reduceLeDiff, reduceCtorEq]) | (refine guard_split (fun hg => ?_) (fun hg => ?_) <;> simp only [hg, amS, amL, tyS, amB, Nat.reduceLT, Nat.reduceEqDiff, Nat.reduceAdd, Nat.reduceMul, Nat.reduceSub, Nat.reduceLeDiff, reduceCtorEq]) | (refine awp_skip ?_; simp only [amS]) | (refine awp_ret ?_; try simp only [amS]) | (refine Cont.go (by assumption) ?_) | (refine Arm.go (by assumption) ?_))
    refine ⟨fun h => ?_, fun h => ?_⟩
    · have hlt : k < 32 := by simp at h; omega
      obtain ⟨b, hb⟩ : ∃ b, p[k]? = some b := ⟨_, List.getElem?_eq_getElem (by omega)⟩
      have hcb : (cB p)[k]? = some (.bool b) := by simp [cB, hb]
      have hw := wrap_succ (k := k) hlt (by omega)
      have his := idsK_succ hb
      have hil := idsK_len p k
      repeat' (first | (refine awp_seq_k fun _ _ => ?_) | (refine awp_block ?_) | ((first | (refine awp_rgn ?_) | (refine awp_any (by kernel_rfl) (by kernel_rfl) ?_) | (refine awp_cond_k fun _ _ _ _ => ?_)) <;> simp only [amS, amL, tyS, amB, Nat.reduceLT, Nat.reduceEqDiff, Nat.reduceAdd, Nat.reduceMul, Nat.reduceSub, Nat.reduceLeDiff, reduceCtorEq, hcb, hlt, Nat.mul_one]) | (refine guard_split (fun hg => ?_) (fun hg => ?_) <;> simp only [hg, amS, amL, tyS, amB, Nat.reduceLT, Nat.reduceEqDiff, Nat.reduceAdd, Nat.reduceMul, Nat.reduceSub, Nat.reduceLeDiff, reduceCtorEq, hcb, hlt, Nat.mul_one]) | (refine awp_skip ?_; simp only [amS]) | (refine awp_exit ?_; simp only [amS, if_true, if_false, Nat.reduceEqDiff]) | (refine awp_ret ?_; try simp only [amS]) | (refine Cont.go (by assumption) ?_) | (refine Arm.go (by assumption) ?_))
      refine ⟨fun h2 => ?_, fun h2 => ?_⟩
      · rw [if_pos h2] at his
        repeat' (first | (refine awp_seq_k fun _ _ => ?_) | (refine awp_block ?_) | ((first | (refine awp_rgn ?_) | (refine awp_any (by kernel_rfl) (by kernel_rfl) ?_) | (refine awp_cond_k fun _ _ _ _ => ?_)) <;> simp only [amS, amL, tyS, amB, Nat.reduceLT, Nat.reduceEqDiff, Nat.reduceAdd, Nat.reduceMul, Nat.reduceSub, Nat.reduceLeDiff, reduceCtorEq]) | (refine guard_split (fun hg => ?_) (fun hg => ?_) <;> simp only [hg, amS, amL, tyS, amB, Nat.reduceLT, Nat.reduceEqDiff, Nat.reduceAdd, Nat.reduceMul, Nat.reduceSub, Nat.reduceLeDiff, reduceCtorEq]) | (refine awp_skip ?_; simp only [amS]) | (refine awp_exit ?_; simp only [amS, if_true, if_false, Nat.reduceEqDiff]) | (refine awp_ret ?_; try simp only [amS]) | (refine Cont.go (by assumption) ?_) | (refine Arm.go (by assumption) ?_))
        refine eff_acc (H := []) (base := []) (app := cI (idsK p k)) (e := [.int .i64 k]) (by' := 8) (by kernel_rfl) rfl rfl rfl (sz1n _) (by simp [srcA]) (by rw [cI_len]; simp only [List.length_nil]; omega) ?_
        simp only [amS, amL, tyS, amB, Nat.reduceLT, Nat.reduceEqDiff, Nat.reduceAdd, Nat.reduceMul, Nat.reduceSub, Nat.reduceLeDiff, reduceCtorEq]
        repeat' (first | (refine awp_seq_k fun _ _ => ?_) | (refine awp_block ?_) | ((first | (refine awp_rgn ?_) | (refine awp_any (by kernel_rfl) (by kernel_rfl) ?_) | (refine awp_cond_k fun _ _ _ _ => ?_)) <;> simp only [amS, amL, tyS, amB, Nat.reduceLT, Nat.reduceEqDiff, Nat.reduceAdd, Nat.reduceMul, Nat.reduceSub, Nat.reduceLeDiff, reduceCtorEq, hw]) | (refine guard_split (fun hg => ?_) (fun hg => ?_) <;> simp only [hg, amS, amL, tyS, amB, Nat.reduceLT, Nat.reduceEqDiff, Nat.reduceAdd, Nat.reduceMul, Nat.reduceSub, Nat.reduceLeDiff, reduceCtorEq, hw]) | (refine awp_skip ?_; simp only [amS]) | (refine awp_exit ?_; simp only [amS, if_true, if_false, Nat.reduceEqDiff]) | (refine awp_ret ?_; try simp only [amS]) | (refine Cont.go (by assumption) ?_) | (refine Arm.go (by assumption) ?_))
        refine AgainR.go hK2 ⟨k + 1, hlt⟩ (Weak.ref ⟨?_, .inl ?_⟩) (by simp; omega)
        · simp only [amS, amL, tyS, amB, Nat.reduceLT, Nat.reduceEqDiff, Nat.reduceAdd, Nat.reduceMul, Nat.reduceSub, Nat.reduceLeDiff, reduceCtorEq]
          simp only [his, cI_snoc, and_self]
        · simp only [amS, amL, tyS, amB, Nat.reduceLT, Nat.reduceEqDiff, Nat.reduceAdd, Nat.reduceMul, Nat.reduceSub, Nat.reduceLeDiff, reduceCtorEq]
          simp only [his, cI_snoc]
      · rw [if_neg (by rw [h2]; simp), List.append_nil] at his
        repeat' (first | (refine awp_seq_k fun _ _ => ?_) | (refine awp_block ?_) | ((first | (refine awp_rgn ?_) | (refine awp_any (by kernel_rfl) (by kernel_rfl) ?_) | (refine awp_cond_k fun _ _ _ _ => ?_)) <;> simp only [amS, amL, tyS, amB, Nat.reduceLT, Nat.reduceEqDiff, Nat.reduceAdd, Nat.reduceMul, Nat.reduceSub, Nat.reduceLeDiff, reduceCtorEq, hw]) | (refine guard_split (fun hg => ?_) (fun hg => ?_) <;> simp only [hg, amS, amL, tyS, amB, Nat.reduceLT, Nat.reduceEqDiff, Nat.reduceAdd, Nat.reduceMul, Nat.reduceSub, Nat.reduceLeDiff, reduceCtorEq, hw]) | (refine awp_skip ?_; simp only [amS]) | (refine awp_exit ?_; simp only [amS, if_true, if_false, Nat.reduceEqDiff]) | (refine awp_ret ?_; try simp only [amS]) | (refine Cont.go (by assumption) ?_) | (refine Arm.go (by assumption) ?_))
        refine AgainR.go hK2 ⟨k + 1, hlt⟩ (Weak.ref ⟨?_, .inl ?_⟩) (by simp; omega)
        · simp only [amS, amL, tyS, amB, Nat.reduceLT, Nat.reduceEqDiff, Nat.reduceAdd, Nat.reduceMul, Nat.reduceSub, Nat.reduceLeDiff, reduceCtorEq]
          simp only [his, and_self]
        · simp only [amS, amL, tyS, amB, Nat.reduceLT, Nat.reduceEqDiff, Nat.reduceAdd, Nat.reduceMul, Nat.reduceSub, Nat.reduceLeDiff, reduceCtorEq]
          simp only [his]
    · repeat' (first | (refine awp_seq_k fun _ _ => ?_) | (refine awp_block ?_) | (refine awp_cond_k fun _ _ _ _ => ?_; simp only [amS, amL, tyS, amB, Nat.reduceLT, Nat.reduceEqDiff, Nat.reduceAdd, Nat.reduceMul, Nat.reduceSub, Nat.reduceLeDiff, reduceCtorEq]) | (refine awp_skip ?_; simp only [amS]) | (refine awp_exit ?_; simp only [amS, if_true, if_false, Nat.reduceEqDiff]) | (refine awp_ret ?_; try simp only [amS]) | (refine Cont.go (by assumption) ?_) | (refine Arm.go (by assumption) ?_))
      have hk2 : k = 32 := by simp at h; omega
      subst hk2
      refine awp_acc_end (base := []) (app := cI (idsK p 32)) (sz := 1) 3 [] hG0 rfl (by simp only [amS]) (by simp [amS]) (sz1n _) (tree_n _) trivial (by simp) ?_
      repeat' (first | (refine awp_seq_k fun _ _ => ?_) | (refine awp_block ?_) | ((first | (refine awp_rgn ?_) | (refine awp_any (by kernel_rfl) (by kernel_rfl) ?_) | (refine awp_cond_k fun _ _ _ _ => ?_)) <;> simp only [amS, amL, tyS, amB, Nat.reduceLT, Nat.reduceEqDiff, Nat.reduceAdd, Nat.reduceMul, Nat.reduceSub, Nat.reduceLeDiff, reduceCtorEq]) | (refine guard_split (fun hg => ?_) (fun hg => ?_) <;> simp only [hg, amS, amL, tyS, amB, Nat.reduceLT, Nat.reduceEqDiff, Nat.reduceAdd, Nat.reduceMul, Nat.reduceSub, Nat.reduceLeDiff, reduceCtorEq]) | (refine awp_skip ?_; simp only [amS]) | (refine awp_exit ?_; simp only [amS, if_true, if_false, Nat.reduceEqDiff]) | (refine awp_ret ?_; try simp only [amS]) | (refine Cont.go (by assumption) ?_) | (refine Arm.go (by assumption) ?_))
      refine body_ret1 rfl ?_
      simp only [amS, if_true, if_false]
      simp only [wk, List.nil_append, wk_cI, encI_cI, idsOf]

end Go.Proofs.Ytgenkkejlggmnaa
