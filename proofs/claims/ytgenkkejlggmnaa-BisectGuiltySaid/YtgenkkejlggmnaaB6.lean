import Derived.Test.YtgenkkejlggmnaaB3
set_option linter.unusedVariables false
set_option linter.unusedSimpArgs false
namespace Go.Proofs.Ytgenkkejlggmnaa
open Go.AM

def cI (l : List Int) : List (List AV) := l.map fun n => [.int .i64 n]
theorem encI_cI (l : List Int) : encI l = .sl false (cI l) := rfl
theorem cI_snoc (l : List Int) (v : Int) : cI (l ++ [v]) = cI l ++ [[.int .i64 v]] := by simp [cI]
theorem cI_len (l : List Int) : (cI l).length = l.length := by simp [cI]
theorem wk_cI (l : List Int) : wkE (cI l) = cI l := by
  rw [wkE_eq, cI, List.map_map]
  exact List.map_congr_left fun x _ => rfl
theorem sz1 (l : List Int) : ∀ e ∈ cI l, e.length = 1 := by
  intro e he
  obtain ⟨v, _, rfl⟩ := List.mem_map.1 he
  rfl
theorem sz1n (l : List Int) : ∀ e ∈ [] ++ cI l, e.length = 1 := by rw [List.nil_append]; exact sz1 l
theorem tree_n (l : List Int) : inE noRef ([] ++ cI l) = true := by rw [List.nil_append]; exact tree_ints l
theorem take_succ_some {α : Type} {l : List α} {k : Nat} {v : α} (h : l[k]? = some v) : l.take (k + 1) = l.take k ++ [v] := by
  rw [List.take_add_one, h]; rfl

def someK (m : List Int) (k : Nat) : List Int := (m.take k).map (around · 17)
def someL (m : List Int) : List Int := someK m 12
theorem someK_succ {m : List Int} {k : Nat} {v : Int} (h : m[k]? = some v) : someK m (k + 1) = someK m k ++ [around v 17] := by simp [someK, take_succ_some h]
theorem someK_0 (m : List Int) : someK m 0 = [] := by simp [someK]
theorem some_16 (l : List V) (m : List Int) (hm : ∀ x ∈ m, Small64 x) (hl : Small m.length) : Pure Try.prog G0 16 [encVs l, encI m] (encI (someL m)) := by
  unfold Small at hl
  refine pure_of_bodyW hG0 Try.func16 rfl (by kernel_rfl) (by simp [Try.ntmps16]) (by simp [inL, tree_encVs, tree_encI]) (tree_encI _) ?_
  simp only [Try.ntmps16, enterF, Nat.reduceAdd]
  repeat' (first | (refine awp_seq_k fun _ _ => ?_) | (refine awp_block ?_) | ((first | (refine awp_rgn ?_) | (refine awp_any (by kernel_rfl) (by kernel_rfl) ?_) | (refine awp_cond_k fun _ _ _ _ => ?_)) <;> simp only [amS, amL, tyS, amB, Nat.reduceLT, Nat.reduceEqDiff, Nat.reduceAdd, Nat.reduceMul, Nat.reduceSub, Nat.reduceLeDiff, reduceCtorEq]) | (refine guard_split (fun hg => ?_) (fun hg => ?_) <;> simp only [hg, amS, amL, tyS, amB, Nat.reduceLT, Nat.reduceEqDiff, Nat.reduceAdd, Nat.reduceMul, Nat.reduceSub, Nat.reduceLeDiff, reduceCtorEq]) | (refine awp_skip ?_; simp only [amS]) | (refine awp_exit ?_; simp only [amS, if_true, if_false, Nat.reduceEqDiff]) | (refine awp_ret ?_; try simp only [amS]) | (refine Cont.go (by assumption) ?_) | (refine Arm.go (by assumption) ?_))
  refine awp_loop_k (α := {k : Nat // k ≤ m.length ∧ k ≤ 12}) (fun k => [(1, encI m), (5, accV [] 0 1 (cI (someK m k.1))), (6, .int .i64 k.1)]) (fun k => accH [] [] (cI (someK m k.1))) (fun k => m.length - k.1) ⟨0, by simp⟩ ⟨?_, .inl ?_⟩ ?_
  · simp [amS, accV_nil, someK_0, cI]
  · simp [amS, accH_nil, someK_0, cI]
  · rintro ⟨k, hk, hk2⟩ K2 hK2
    repeat' (first | (refine awp_seq_k fun _ _ => ?_) | (refine awp_block ?_) | ((first | (refine awp_rgn ?_) | (refine awp_any (by kernel_rfl) (by kernel_rfl) ?_) | (refine awp_cond_k fun _ _ _ _ => ?_)) <;> simp only [amS, amL, tyS, amB, Nat.reduceLT, Nat.reduceEqDiff, Nat.reduceAdd, Nat.reduceMul, Nat.reduceSub, Nat.reduceLeDiff, reduceCtorEq, encI]) | (refine guard_split (fun hg => ?_) (fun hg => ?_) <;> simp only [hg, amS, amL, tyS, amB, Nat.reduceLT, Nat.reduceEqDiff, Nat.reduceAdd, Nat.reduceMul, Nat.reduceSub, Nat.reduceLeDiff, reduceCtorEq, encI]) | (refine awp_skip ?_; simp only [amS]) | (refine awp_ret ?_; try simp only [amS]) | (refine Cont.go (by assumption) ?_) | (refine Arm.go (by assumption) ?_))
    · have hlt : k < m.length := by simpa using hg
      obtain ⟨v, hv⟩ : ∃ v, m[k]? = some v := ⟨_, List.getElem?_eq_getElem hlt⟩
      have hw := wrap_succ (k := k) hlt (by omega)
      refine ⟨fun h => ?_, fun h => ?_⟩
      · have hlt2 : k < 12 := by simp at h; omega
        repeat' (first | (refine awp_seq_k fun _ _ => ?_) | (refine awp_block ?_) | ((first | (refine awp_rgn ?_) | (refine awp_any (by kernel_rfl) (by kernel_rfl) ?_) | (refine awp_cond_k fun _ _ _ _ => ?_)) <;> simp only [amS, amL, tyS, amB, Nat.reduceLT, Nat.reduceEqDiff, Nat.reduceAdd, Nat.reduceMul, Nat.reduceSub, Nat.reduceLeDiff, reduceCtorEq, hv]) | (refine guard_split (fun hg => ?_) (fun hg => ?_) <;> simp only [hg, amS, amL, tyS, amB, Nat.reduceLT, Nat.reduceEqDiff, Nat.reduceAdd, Nat.reduceMul, Nat.reduceSub, Nat.reduceLeDiff, reduceCtorEq, hv]) | (refine awp_skip ?_; simp only [amS]) | (refine awp_exit ?_; simp only [amS, if_true, if_false, Nat.reduceEqDiff]) | (refine awp_ret ?_; try simp only [amS]) | (refine Cont.go (by assumption) ?_) | (refine Arm.go (by assumption) ?_))
        refine callR_tree hG0 (around_17 v 17 (hm v (List.mem_of_getElem? hv)) (by omega)) ?_
        simp only [amS, amL, tyS, amB, Nat.reduceLT, Nat.reduceEqDiff, Nat.reduceAdd, Nat.reduceMul, Nat.reduceSub, Nat.reduceLeDiff, reduceCtorEq]
        refine eff_acc (H := []) (base := []) (app := cI (someK m k)) (e := [.int .i64 (around v 17)]) (by' := 8) (by kernel_rfl) rfl rfl rfl (sz1n _) (by simp [srcA]) (by rw [cI_len]; simp [someK]; omega) ?_
        simp only [amS, amL, tyS, amB, Nat.reduceLT, Nat.reduceEqDiff, Nat.reduceAdd, Nat.reduceMul, Nat.reduceSub, Nat.reduceLeDiff, reduceCtorEq]
        repeat' (first | (refine awp_seq_k fun _ _ => ?_) | (refine awp_block ?_) | ((first | (refine awp_rgn ?_) | (refine awp_any (by kernel_rfl) (by kernel_rfl) ?_) | (refine awp_cond_k fun _ _ _ _ => ?_)) <;> simp only [amS, amL, tyS, amB, Nat.reduceLT, Nat.reduceEqDiff, Nat.reduceAdd, Nat.reduceMul, Nat.reduceSub, Nat.reduceLeDiff, reduceCtorEq, hw]) | (refine guard_split (fun hg => ?_) (fun hg => ?_) <;> simp only [hg, amS, amL, tyS, amB, Nat.reduceLT, Nat.reduceEqDiff, Nat.reduceAdd, Nat.reduceMul, Nat.reduceSub, Nat.reduceLeDiff, reduceCtorEq, hw]) | (refine awp_skip ?_; simp only [amS]) | (refine awp_exit ?_; simp only [amS, if_true, if_false, Nat.reduceEqDiff]) | (refine awp_ret ?_; try simp only [amS]) | (refine Cont.go (by assumption) ?_) | (refine Arm.go (by assumption) ?_))
        refine Again.go hK2 ⟨k + 1, hlt, hlt2⟩ ⟨?_, .inl ?_⟩ ?_
        · simp only [amS, amL, tyS, amB, Nat.reduceLT, Nat.reduceEqDiff, Nat.reduceAdd, Nat.reduceMul, Nat.reduceSub, Nat.reduceLeDiff, reduceCtorEq]
          simp only [someK_succ hv, cI_snoc, encI, and_self]
        · simp only [amS, amL, tyS, amB, Nat.reduceLT, Nat.reduceEqDiff, Nat.reduceAdd, Nat.reduceMul, Nat.reduceSub, Nat.reduceLeDiff, reduceCtorEq]
          simp only [someK_succ hv, cI_snoc]
        · simp; omega
      · repeat' (first | (refine awp_seq_k fun _ _ => ?_) | (refine awp_block ?_) | (refine awp_cond_k fun _ _ _ _ => ?_; simp only [amS, amL, tyS, amB, Nat.reduceLT, Nat.reduceEqDiff, Nat.reduceAdd, Nat.reduceMul, Nat.reduceSub, Nat.reduceLeDiff, reduceCtorEq]) | (refine awp_skip ?_; simp only [amS]) | (refine awp_exit ?_; simp only [amS, if_true, if_false, Nat.reduceEqDiff]) | (refine awp_ret ?_; try simp only [amS]) | (refine Cont.go (by assumption) ?_) | (refine Arm.go (by assumption) ?_))
        refine awp_acc_end (base := []) (app := cI (someK m k)) (sz := 1) 5 [] hG0 rfl (by simp only [amS]) (by simp [amS]) (sz1n _) (tree_n _) trivial (by simp) ?_
        repeat' (first | (refine awp_seq_k fun _ _ => ?_) | (refine awp_block ?_) | ((first | (refine awp_rgn ?_) | (refine awp_any (by kernel_rfl) (by kernel_rfl) ?_) | (refine awp_cond_k fun _ _ _ _ => ?_)) <;> simp only [amS, amL, tyS, amB, Nat.reduceLT, Nat.reduceEqDiff, Nat.reduceAdd, Nat.reduceMul, Nat.reduceSub, Nat.reduceLeDiff, reduceCtorEq]) | (refine guard_split (fun hg => ?_) (fun hg => ?_) <;> simp only [hg, amS, amL, tyS, amB, Nat.reduceLT, Nat.reduceEqDiff, Nat.reduceAdd, Nat.reduceMul, Nat.reduceSub, Nat.reduceLeDiff, reduceCtorEq]) | (refine awp_skip ?_; simp only [amS]) | (refine awp_exit ?_; simp only [amS, if_true, if_false, Nat.reduceEqDiff]) | (refine awp_ret ?_; try simp only [amS]) | (refine Cont.go (by assumption) ?_) | (refine Arm.go (by assumption) ?_))
        refine body_ret1 rfl ?_
        simp only [amS, if_true, if_false]
        have : k = 12 := by simp at h; omega
        subst this
        simp only [wk, List.nil_append, wk_cI, encI_cI, someL]
    · repeat' (first | (refine awp_seq_k fun _ _ => ?_) | (refine awp_block ?_) | (refine awp_cond_k fun _ _ _ _ => ?_; simp only [amS, amL, tyS, amB, Nat.reduceLT, Nat.reduceEqDiff, Nat.reduceAdd, Nat.reduceMul, Nat.reduceSub, Nat.reduceLeDiff, reduceCtorEq]) | (refine awp_skip ?_; simp only [amS]) | (refine awp_exit ?_; simp only [amS, if_true, if_false, Nat.reduceEqDiff]) | (refine awp_ret ?_; try simp only [amS]) | (refine Cont.go (by assumption) ?_) | (refine Arm.go (by assumption) ?_))
      refine awp_acc_end (base := []) (app := cI (someK m k)) (sz := 1) 5 [] hG0 rfl (by simp only [amS]) (by simp [amS]) (sz1n _) (tree_n _) trivial (by simp) ?_
      repeat' (first | (refine awp_seq_k fun _ _ => ?_) | (refine awp_block ?_) | ((first | (refine awp_rgn ?_) | (refine awp_any (by kernel_rfl) (by kernel_rfl) ?_) | (refine awp_cond_k fun _ _ _ _ => ?_)) <;> simp only [amS, amL, tyS, amB, Nat.reduceLT, Nat.reduceEqDiff, Nat.reduceAdd, Nat.reduceMul, Nat.reduceSub, Nat.reduceLeDiff, reduceCtorEq]) | (refine guard_split (fun hg => ?_) (fun hg => ?_) <;> simp only [hg, amS, amL, tyS, amB, Nat.reduceLT, Nat.reduceEqDiff, Nat.reduceAdd, Nat.reduceMul, Nat.reduceSub, Nat.reduceLeDiff, reduceCtorEq]) | (refine awp_skip ?_; simp only [amS]) | (refine awp_exit ?_; simp only [amS, if_true, if_false, Nat.reduceEqDiff]) | (refine awp_ret ?_; try simp only [amS]) | (refine Cont.go (by assumption) ?_) | (refine Arm.go (by assumption) ?_))
      refine body_ret1 rfl ?_
      simp only [amS, if_true, if_false]
      have : k = m.length := by simp at hg; omega
      subst this
      simp only [wk, List.nil_append, wk_cI, encI_cI, someL]
      simp [someK, List.take_of_length_le hk2]

end Go.Proofs.Ytgenkkejlggmnaa
