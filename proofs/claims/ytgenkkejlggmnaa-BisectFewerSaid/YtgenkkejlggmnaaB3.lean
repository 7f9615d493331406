import Derived.Test.YtgenkkejlggmnaaB2
set_option linter.unusedVariables false
set_option linter.unusedSimpArgs false
namespace Go.Proofs.Ytgenkkejlggmnaa
open Go.AM

def findGo : List V → Int → Nat → Int
  | [], _, _ => -1
  | v :: l, n, k => if v.id = n then k else findGo l n (k + 1)
def indexGo : List Int → Int → Nat → Int
  | [], _, _ => -1
  | v :: l, n, k => if n = v then k else indexGo l n (k + 1)

theorem findGo_30 (l : List V) (n : Int) (hl : Small l.length) : Pure Try.prog G0 30 [encVs l, .int .i64 n] (.int .i64 (findGo l n 0)) := by
  unfold Small at hl
  refine pure_of_body hG0 Try.func30 rfl (by kernel_rfl) (by simp [Try.ntmps30]) (by simp [inL, inR, encVs, tree_vs]) (by simp [inR]) ?_
  simp only [Try.ntmps30, enterF, encVs, Nat.reduceAdd]
  repeat' (first | (refine awp_seq_k fun _ _ => ?_) | (refine awp_block ?_) | ((first | (refine awp_rgn ?_) | (refine awp_any (by kernel_rfl) (by kernel_rfl) ?_) | (refine awp_cond_k fun _ _ _ _ => ?_)) <;> simp only [amS, amL, tyS, amB, Nat.reduceLT, Nat.reduceEqDiff, Nat.reduceAdd, Nat.reduceMul, Nat.reduceSub, Nat.reduceLeDiff, reduceCtorEq]) | (refine guard_split (fun hg => ?_) (fun hg => ?_) <;> simp only [hg, amS, amL, tyS, amB, Nat.reduceLT, Nat.reduceEqDiff, Nat.reduceAdd, Nat.reduceMul, Nat.reduceSub, Nat.reduceLeDiff, reduceCtorEq]) | (refine awp_skip ?_; simp only [amS]) | (refine awp_exit ?_; simp only [amS, if_true, if_false, Nat.reduceEqDiff]) | (refine awp_ret ?_; try simp only [amS]) | (refine Cont.go (by assumption) ?_) | (refine Arm.go (by assumption) ?_))
  refine awp_loop_k (α := {k : Nat // k ≤ l.length ∧ findGo (l.drop k) n k = findGo l n 0}) (fun k => [(0, .sl false (l.map encV)), (1, .int .i64 n), (5, .int .i64 k.1)]) (fun _ => []) (fun k => l.length - k.1) ⟨0, by simp, by simp⟩ ⟨?_, .inl ?_⟩ ?_
  · simp [amS]
  · simp only [amS]
  · rintro ⟨k, hk, hn⟩ K2 hK2
    repeat' (first | (refine awp_seq_k fun _ _ => ?_) | (refine awp_block ?_) | ((first | (refine awp_rgn ?_) | (refine awp_any (by kernel_rfl) (by kernel_rfl) ?_) | (refine awp_cond_k fun _ _ _ _ => ?_)) <;> simp only [amS, amL, tyS, amB, Nat.reduceLT, Nat.reduceEqDiff, Nat.reduceAdd, Nat.reduceMul, Nat.reduceSub, Nat.reduceLeDiff, reduceCtorEq]) | (refine guard_split (fun hg => ?_) (fun hg => ?_) <;> simp only [hg, amS, amL, tyS, amB, Nat.reduceLT, Nat.reduceEqDiff, Nat.reduceAdd, Nat.reduceMul, Nat.reduceSub, Nat.reduceLeDiff, reduceCtorEq]) | (refine awp_skip ?_; simp only [amS]) | (refine awp_exit ?_; simp only [amS, if_true, if_false, Nat.reduceEqDiff]) | (refine awp_ret ?_; try simp only [amS]) | (refine Cont.go (by assumption) ?_) | (refine Arm.go (by assumption) ?_))
    refine ⟨fun h => ?_, fun h => ?_⟩
    · have hlt : k < l.length := by simpa using h
      obtain ⟨v, hv⟩ : ∃ v, l[k]? = some v := ⟨_, List.getElem?_eq_getElem hlt⟩
      rw [drop_cons hv] at hn
      simp only [findGo] at hn
      repeat' (first | (refine awp_seq_k fun _ _ => ?_) | (refine awp_block ?_) | ((first | (refine awp_rgn ?_) | (refine awp_any (by kernel_rfl) (by kernel_rfl) ?_) | (refine awp_cond_k fun _ _ _ _ => ?_)) <;> simp only [amS, amL, tyS, amB, Nat.reduceLT, Nat.reduceEqDiff, Nat.reduceAdd, Nat.reduceMul, Nat.reduceSub, Nat.reduceLeDiff, reduceCtorEq, hv, encV, encI]) | (refine guard_split (fun hg => ?_) (fun hg => ?_) <;> simp only [hg, amS, amL, tyS, amB, Nat.reduceLT, Nat.reduceEqDiff, Nat.reduceAdd, Nat.reduceMul, Nat.reduceSub, Nat.reduceLeDiff, reduceCtorEq, hv, encV, encI]) | (refine awp_skip ?_; simp only [amS]) | (refine awp_exit ?_; simp only [amS, if_true, if_false, Nat.reduceEqDiff]) | (refine awp_ret ?_; try simp only [amS]) | (refine Cont.go (by assumption) ?_) | (refine Arm.go (by assumption) ?_))
      have hw := wrap_succ (k := k) hlt (by omega)
      refine ⟨fun h => ?_, fun h => ?_⟩
      · repeat' (first | (refine awp_seq_k fun _ _ => ?_) | (refine awp_block ?_) | ((first | (refine awp_rgn ?_) | (refine awp_any (by kernel_rfl) (by kernel_rfl) ?_) | (refine awp_cond_k fun _ _ _ _ => ?_)) <;> simp only [amS, amL, tyS, amB, Nat.reduceLT, Nat.reduceEqDiff, Nat.reduceAdd, Nat.reduceMul, Nat.reduceSub, Nat.reduceLeDiff, reduceCtorEq]) | (refine guard_split (fun hg => ?_) (fun hg => ?_) <;> simp only [hg, amS, amL, tyS, amB, Nat.reduceLT, Nat.reduceEqDiff, Nat.reduceAdd, Nat.reduceMul, Nat.reduceSub, Nat.reduceLeDiff, reduceCtorEq]) | (refine awp_skip ?_; simp only [amS]) | (refine awp_exit ?_; simp only [amS, if_true, if_false, Nat.reduceEqDiff]) | (refine awp_ret ?_; try simp only [amS]) | (refine Cont.go (by assumption) ?_) | (refine Arm.go (by assumption) ?_))
        refine body_ret1 rfl ?_
        simp only [amS, if_true, if_false]
        rw [AV.int.injEq]
        simp only [beq_iff_eq] at h
        refine ⟨rfl, ?_⟩
        rw [← hn, if_pos (by simp [h])]
      · repeat' (first | (refine awp_seq_k fun _ _ => ?_) | (refine awp_block ?_) | ((first | (refine awp_rgn ?_) | (refine awp_any (by kernel_rfl) (by kernel_rfl) ?_) | (refine awp_cond_k fun _ _ _ _ => ?_)) <;> simp only [amS, amL, tyS, amB, Nat.reduceLT, Nat.reduceEqDiff, Nat.reduceAdd, Nat.reduceMul, Nat.reduceSub, Nat.reduceLeDiff, reduceCtorEq, hw]) | (refine guard_split (fun hg => ?_) (fun hg => ?_) <;> simp only [hg, amS, amL, tyS, amB, Nat.reduceLT, Nat.reduceEqDiff, Nat.reduceAdd, Nat.reduceMul, Nat.reduceSub, Nat.reduceLeDiff, reduceCtorEq, hw]) | (refine awp_skip ?_; simp only [amS]) | (refine awp_exit ?_; simp only [amS, if_true, if_false, Nat.reduceEqDiff]) | (refine awp_ret ?_; try simp only [amS]) | (refine Cont.go (by assumption) ?_) | (refine Arm.go (by assumption) ?_))
        refine Again.go hK2 ⟨k + 1, hlt, ?_⟩ ⟨?_, .inl ?_⟩ ?_
        · have h' : ¬ (v.id = n) := by
            intro e; rw [e] at h; simp at h
          rw [if_neg h'] at hn
          exact hn
        · simp only [amS, if_true, if_false, Nat.reduceEqDiff, and_self]
        · simp only [amS]
        · simp; omega
    · repeat' (first | (refine awp_seq_k fun _ _ => ?_) | (refine awp_block ?_) | ((first | (refine awp_rgn ?_) | (refine awp_any (by kernel_rfl) (by kernel_rfl) ?_) | (refine awp_cond_k fun _ _ _ _ => ?_)) <;> simp only [amS, amL, tyS, amB, Nat.reduceLT, Nat.reduceEqDiff, Nat.reduceAdd, Nat.reduceMul, Nat.reduceSub, Nat.reduceLeDiff, reduceCtorEq]) | (refine guard_split (fun hg => ?_) (fun hg => ?_) <;> simp only [hg, amS, amL, tyS, amB, Nat.reduceLT, Nat.reduceEqDiff, Nat.reduceAdd, Nat.reduceMul, Nat.reduceSub, Nat.reduceLeDiff, reduceCtorEq]) | (refine awp_skip ?_; simp only [amS]) | (refine awp_exit ?_; simp only [amS, if_true, if_false, Nat.reduceEqDiff]) | (refine awp_ret ?_; try simp only [amS]) | (refine Cont.go (by assumption) ?_) | (refine Arm.go (by assumption) ?_))
      refine body_ret1 rfl ?_
      simp only [amS, if_true, if_false]
      rw [AV.int.injEq]
      have : k = l.length := by simp at h; omega
      subst this
      simpa [findGo] using hn

theorem indexGo_45 (l : List Int) (n : Int) (hl : Small l.length) : Pure Try.prog G0 45 [encI l, .int .i64 n] (.int .i64 (indexGo l n 0)) := by
  unfold Small at hl
  refine pure_of_body hG0 Try.func45 rfl (by kernel_rfl) (by simp [Try.ntmps45]) (by simp [inL, inR, encI, tree_ints]) (by simp [inR]) ?_
  simp only [Try.ntmps45, enterF, encI, Nat.reduceAdd]
  repeat' (first | (refine awp_seq_k fun _ _ => ?_) | (refine awp_block ?_) | ((first | (refine awp_rgn ?_) | (refine awp_any (by kernel_rfl) (by kernel_rfl) ?_) | (refine awp_cond_k fun _ _ _ _ => ?_)) <;> simp only [amS, amL, tyS, amB, Nat.reduceLT, Nat.reduceEqDiff, Nat.reduceAdd, Nat.reduceMul, Nat.reduceSub, Nat.reduceLeDiff, reduceCtorEq]) | (refine guard_split (fun hg => ?_) (fun hg => ?_) <;> simp only [hg, amS, amL, tyS, amB, Nat.reduceLT, Nat.reduceEqDiff, Nat.reduceAdd, Nat.reduceMul, Nat.reduceSub, Nat.reduceLeDiff, reduceCtorEq]) | (refine awp_skip ?_; simp only [amS]) | (refine awp_exit ?_; simp only [amS, if_true, if_false, Nat.reduceEqDiff]) | (refine awp_ret ?_; try simp only [amS]) | (refine Cont.go (by assumption) ?_) | (refine Arm.go (by assumption) ?_))
  refine awp_loop_k (α := {k : Nat // k ≤ l.length ∧ indexGo (l.drop k) n k = indexGo l n 0}) (fun k => [(0, .sl false (l.map fun n => [.int .i64 n])), (1, .int .i64 n), (7, .int .i64 l.length), (8, .int .i64 k.1)]) (fun _ => []) (fun k => l.length - k.1) ⟨0, by simp, by simp⟩ ⟨?_, .inl ?_⟩ ?_
  · simp [amS]
  · simp only [amS]
  · rintro ⟨k, hk, hn⟩ K2 hK2
    repeat' (first | (refine awp_seq_k fun _ _ => ?_) | (refine awp_block ?_) | ((first | (refine awp_rgn ?_) | (refine awp_any (by kernel_rfl) (by kernel_rfl) ?_) | (refine awp_cond_k fun _ _ _ _ => ?_)) <;> simp only [amS, amL, tyS, amB, Nat.reduceLT, Nat.reduceEqDiff, Nat.reduceAdd, Nat.reduceMul, Nat.reduceSub, Nat.reduceLeDiff, reduceCtorEq]) | (refine guard_split (fun hg => ?_) (fun hg => ?_) <;> simp only [hg, amS, amL, tyS, amB, Nat.reduceLT, Nat.reduceEqDiff, Nat.reduceAdd, Nat.reduceMul, Nat.reduceSub, Nat.reduceLeDiff, reduceCtorEq]) | (refine awp_skip ?_; simp only [amS]) | (refine awp_exit ?_; simp only [amS, if_true, if_false, Nat.reduceEqDiff]) | (refine awp_ret ?_; try simp only [amS]) | (refine Cont.go (by assumption) ?_) | (refine Arm.go (by assumption) ?_))
    refine ⟨fun h => ?_, fun h => ?_⟩
    · have hlt : k < l.length := by simpa using h
      obtain ⟨v, hv⟩ : ∃ v, l[k]? = some v := ⟨_, List.getElem?_eq_getElem hlt⟩
      rw [drop_cons hv] at hn
      simp only [indexGo] at hn
      repeat' (first | (refine awp_seq_k fun _ _ => ?_) | (refine awp_block ?_) | ((first | (refine awp_rgn ?_) | (refine awp_any (by kernel_rfl) (by kernel_rfl) ?_) | (refine awp_cond_k fun _ _ _ _ => ?_)) <;> simp only [amS, amL, tyS, amB, Nat.reduceLT, Nat.reduceEqDiff, Nat.reduceAdd, Nat.reduceMul, Nat.reduceSub, Nat.reduceLeDiff, reduceCtorEq, hv, Int.natCast_nonneg]) | (refine guard_split (fun hg => ?_) (fun hg => ?_) <;> simp only [hg, amS, amL, tyS, amB, Nat.reduceLT, Nat.reduceEqDiff, Nat.reduceAdd, Nat.reduceMul, Nat.reduceSub, Nat.reduceLeDiff, reduceCtorEq, hv, Int.natCast_nonneg]) | (refine awp_skip ?_; simp only [amS]) | (refine awp_exit ?_; simp only [amS, if_true, if_false, Nat.reduceEqDiff]) | (refine awp_ret ?_; try simp only [amS]) | (refine Cont.go (by assumption) ?_) | (refine Arm.go (by assumption) ?_))
      have hw := wrap_succ (k := k) hlt (by omega)
      refine ⟨fun h => ?_, fun h => ?_⟩
      · repeat' (first | (refine awp_seq_k fun _ _ => ?_) | (refine awp_block ?_) | ((first | (refine awp_rgn ?_) | (refine awp_any (by kernel_rfl) (by kernel_rfl) ?_) | (refine awp_cond_k fun _ _ _ _ => ?_)) <;> simp only [amS, amL, tyS, amB, Nat.reduceLT, Nat.reduceEqDiff, Nat.reduceAdd, Nat.reduceMul, Nat.reduceSub, Nat.reduceLeDiff, reduceCtorEq]) | (refine guard_split (fun hg => ?_) (fun hg => ?_) <;> simp only [hg, amS, amL, tyS, amB, Nat.reduceLT, Nat.reduceEqDiff, Nat.reduceAdd, Nat.reduceMul, Nat.reduceSub, Nat.reduceLeDiff, reduceCtorEq]) | (refine awp_skip ?_; simp only [amS]) | (refine awp_exit ?_; simp only [amS, if_true, if_false, Nat.reduceEqDiff]) | (refine awp_ret ?_; try simp only [amS]) | (refine Cont.go (by assumption) ?_) | (refine Arm.go (by assumption) ?_))
        refine body_ret1 rfl ?_
        simp only [amS, if_true, if_false]
        rw [AV.int.injEq]
        simp only [beq_iff_eq] at h
        refine ⟨rfl, ?_⟩
        rw [← hn, if_pos (by simp [h])]
      · repeat' (first | (refine awp_seq_k fun _ _ => ?_) | (refine awp_block ?_) | ((first | (refine awp_rgn ?_) | (refine awp_any (by kernel_rfl) (by kernel_rfl) ?_) | (refine awp_cond_k fun _ _ _ _ => ?_)) <;> simp only [amS, amL, tyS, amB, Nat.reduceLT, Nat.reduceEqDiff, Nat.reduceAdd, Nat.reduceMul, Nat.reduceSub, Nat.reduceLeDiff, reduceCtorEq, hw]) | (refine guard_split (fun hg => ?_) (fun hg => ?_) <;> simp only [hg, amS, amL, tyS, amB, Nat.reduceLT, Nat.reduceEqDiff, Nat.reduceAdd, Nat.reduceMul, Nat.reduceSub, Nat.reduceLeDiff, reduceCtorEq, hw]) | (refine awp_skip ?_; simp only [amS]) | (refine awp_exit ?_; simp only [amS, if_true, if_false, Nat.reduceEqDiff]) | (refine awp_ret ?_; try simp only [amS]) | (refine Cont.go (by assumption) ?_) | (refine Arm.go (by assumption) ?_))
        refine Again.go hK2 ⟨k + 1, hlt, ?_⟩ ⟨?_, .inl ?_⟩ ?_
        · have h' : ¬ (n = v) := by
            intro e; rw [e] at h; simp at h
          rw [if_neg h'] at hn
          exact hn
        · simp only [amS, if_true, if_false, Nat.reduceEqDiff, and_self]
        · simp only [amS]
        · simp; omega
    · repeat' (first | (refine awp_seq_k fun _ _ => ?_) | (refine awp_block ?_) | ((first | (refine awp_rgn ?_) | (refine awp_any (by kernel_rfl) (by kernel_rfl) ?_) | (refine awp_cond_k fun _ _ _ _ => ?_)) <;> simp only [amS, amL, tyS, amB, Nat.reduceLT, Nat.reduceEqDiff, Nat.reduceAdd, Nat.reduceMul, Nat.reduceSub, Nat.reduceLeDiff, reduceCtorEq]) | (refine guard_split (fun hg => ?_) (fun hg => ?_) <;> simp only [hg, amS, amL, tyS, amB, Nat.reduceLT, Nat.reduceEqDiff, Nat.reduceAdd, Nat.reduceMul, Nat.reduceSub, Nat.reduceLeDiff, reduceCtorEq]) | (refine awp_skip ?_; simp only [amS]) | (refine awp_exit ?_; simp only [amS, if_true, if_false, Nat.reduceEqDiff]) | (refine awp_ret ?_; try simp only [amS]) | (refine Cont.go (by assumption) ?_) | (refine Arm.go (by assumption) ?_))
      refine body_ret1 rfl ?_
      simp only [amS, if_true, if_false]
      rw [AV.int.injEq]
      have : k = l.length := by simp at h; omega
      subst this
      simpa [indexGo] using hn

theorem indexGo_has : ∀ (l : List Int) (n : Int) (k : Nat), decide (indexGo l n k ≥ 0) = hasL l n
  | [], n, k => by simp [indexGo, hasL]
  | v :: l, n, k => by
    have ih := indexGo_has l n (k + 1)
    simp only [indexGo, hasL, List.any_cons] at ih ⊢
    split
    · rename_i h; subst h; simp
    · rename_i h
      rw [ih]
      have : (v == n) = false := by simp; exact fun e => h e.symm
      rw [this, Bool.false_or]

theorem contains_35 (l : List Int) (n : Int) (hl : Small l.length) : Pure Try.prog G0 35 [encI l, .int .i64 n] (.bool (hasL l n)) := by
  refine pure_of_body hG0 Try.func35 rfl (by kernel_rfl) (by simp [Try.ntmps35]) (by simp [inL, inR, encI, tree_ints]) (by simp [inR]) ?_
  simp only [Try.ntmps35, enterF, Nat.reduceAdd]
  repeat' (first | (refine awp_seq_k fun _ _ => ?_) | (refine awp_block ?_) | ((first | (refine awp_rgn ?_) | (refine awp_any (by kernel_rfl) (by kernel_rfl) ?_) | (refine awp_cond_k fun _ _ _ _ => ?_)) <;> simp only [amS, amL, tyS, amB, Nat.reduceLT, Nat.reduceEqDiff, Nat.reduceAdd, Nat.reduceMul, Nat.reduceSub, Nat.reduceLeDiff, reduceCtorEq]) | (refine guard_split (fun hg => ?_) (fun hg => ?_) <;> simp only [hg, amS, amL, tyS, amB, Nat.reduceLT, Nat.reduceEqDiff, Nat.reduceAdd, Nat.reduceMul, Nat.reduceSub, Nat.reduceLeDiff, reduceCtorEq]) | (refine awp_skip ?_; simp only [amS]) | (refine awp_exit ?_; simp only [amS, if_true, if_false, Nat.reduceEqDiff]) | (refine awp_ret ?_; try simp only [amS]) | (refine Cont.go (by assumption) ?_) | (refine Arm.go (by assumption) ?_))
  refine callR_tree hG0 (indexGo_45 l n hl) ?_
  simp only [amS, amL, tyS, amB, Nat.reduceLT, Nat.reduceEqDiff, Nat.reduceAdd, Nat.reduceMul, Nat.reduceSub, Nat.reduceLeDiff, reduceCtorEq]
  repeat' (first | (refine awp_seq_k fun _ _ => ?_) | (refine awp_block ?_) | ((first | (refine awp_rgn ?_) | (refine awp_any (by kernel_rfl) (by kernel_rfl) ?_) | (refine awp_cond_k fun _ _ _ _ => ?_)) <;> simp only [amS, amL, tyS, amB, Nat.reduceLT, Nat.reduceEqDiff, Nat.reduceAdd, Nat.reduceMul, Nat.reduceSub, Nat.reduceLeDiff, reduceCtorEq]) | (refine guard_split (fun hg => ?_) (fun hg => ?_) <;> simp only [hg, amS, amL, tyS, amB, Nat.reduceLT, Nat.reduceEqDiff, Nat.reduceAdd, Nat.reduceMul, Nat.reduceSub, Nat.reduceLeDiff, reduceCtorEq]) | (refine awp_skip ?_; simp only [amS]) | (refine awp_exit ?_; simp only [amS, if_true, if_false, Nat.reduceEqDiff]) | (refine awp_ret ?_; try simp only [amS]) | (refine Cont.go (by assumption) ?_) | (refine Arm.go (by assumption) ?_))
  refine body_ret1 rfl ?_
  simp only [amS, if_true, if_false]
  rw [AV.bool.injEq]
  exact indexGo_has l n 0

theorem sameInts_12 (a b : List Int) (hl : Small a.length) : Pure Try.prog G0 12 [encI a, encI b] (.bool (decide (a = b))) := by
  unfold Small at hl
  refine pure_of_body hG0 Try.func12 rfl (by kernel_rfl) (by simp [Try.ntmps12]) (by simp [inL, inR, encI, tree_ints]) (by simp [inR]) ?_
  simp only [Try.ntmps12, enterF, encI, Nat.reduceAdd]
  repeat' (first | (refine awp_seq_k fun _ _ => ?_) | (refine awp_block ?_) | ((first | (refine awp_rgn ?_) | (refine awp_any (by kernel_rfl) (by kernel_rfl) ?_) | (refine awp_cond_k fun _ _ _ _ => ?_)) <;> simp only [amS, amL, tyS, amB, Nat.reduceLT, Nat.reduceEqDiff, Nat.reduceAdd, Nat.reduceMul, Nat.reduceSub, Nat.reduceLeDiff, reduceCtorEq]) | (refine guard_split (fun hg => ?_) (fun hg => ?_) <;> simp only [hg, amS, amL, tyS, amB, Nat.reduceLT, Nat.reduceEqDiff, Nat.reduceAdd, Nat.reduceMul, Nat.reduceSub, Nat.reduceLeDiff, reduceCtorEq]) | (refine awp_skip ?_; simp only [amS]) | (refine awp_exit ?_; simp only [amS, if_true, if_false, Nat.reduceEqDiff]) | (refine awp_ret ?_; try simp only [amS]) | (refine Cont.go (by assumption) ?_) | (refine Arm.go (by assumption) ?_))
  refine ⟨fun h => ?_, fun h => ?_⟩
  · repeat' (first | (refine awp_seq_k fun _ _ => ?_) | (refine awp_block ?_) | ((first | (refine awp_rgn ?_) | (refine awp_any (by kernel_rfl) (by kernel_rfl) ?_) | (refine awp_cond_k fun _ _ _ _ => ?_)) <;> simp only [amS, amL, tyS, amB, Nat.reduceLT, Nat.reduceEqDiff, Nat.reduceAdd, Nat.reduceMul, Nat.reduceSub, Nat.reduceLeDiff, reduceCtorEq]) | (refine guard_split (fun hg => ?_) (fun hg => ?_) <;> simp only [hg, amS, amL, tyS, amB, Nat.reduceLT, Nat.reduceEqDiff, Nat.reduceAdd, Nat.reduceMul, Nat.reduceSub, Nat.reduceLeDiff, reduceCtorEq]) | (refine awp_skip ?_; simp only [amS]) | (refine awp_exit ?_; simp only [amS, if_true, if_false, Nat.reduceEqDiff]) | (refine awp_ret ?_; try simp only [amS]) | (refine Cont.go (by assumption) ?_) | (refine Arm.go (by assumption) ?_))
    refine body_ret1 rfl ?_
    simp only [amS, if_true, if_false]
    rw [AV.bool.injEq, eq_comm, decide_eq_false_iff_not]
    rintro rfl
    simp at h
  · have hlen : a.length = b.length := by simp at h; omega
    repeat' (first | (refine awp_seq_k fun _ _ => ?_) | (refine awp_block ?_) | ((first | (refine awp_rgn ?_) | (refine awp_any (by kernel_rfl) (by kernel_rfl) ?_) | (refine awp_cond_k fun _ _ _ _ => ?_)) <;> simp only [amS, amL, tyS, amB, Nat.reduceLT, Nat.reduceEqDiff, Nat.reduceAdd, Nat.reduceMul, Nat.reduceSub, Nat.reduceLeDiff, reduceCtorEq]) | (refine guard_split (fun hg => ?_) (fun hg => ?_) <;> simp only [hg, amS, amL, tyS, amB, Nat.reduceLT, Nat.reduceEqDiff, Nat.reduceAdd, Nat.reduceMul, Nat.reduceSub, Nat.reduceLeDiff, reduceCtorEq]) | (refine awp_skip ?_; simp only [amS]) | (refine awp_exit ?_; simp only [amS, if_true, if_false, Nat.reduceEqDiff]) | (refine awp_ret ?_; try simp only [amS]) | (refine Cont.go (by assumption) ?_) | (refine Arm.go (by assumption) ?_))
    refine awp_loop_k (α := {k : Nat // k ≤ a.length ∧ a.take k = b.take k}) (fun k => [(0, .sl false (a.map fun n => [.int .i64 n])), (1, .sl false (b.map fun n => [.int .i64 n])), (5, .int .i64 k.1)]) (fun _ => []) (fun k => a.length - k.1) ⟨0, by simp, by simp⟩ ⟨?_, .inl ?_⟩ ?_
    · simp [amS]
    · simp only [amS]
    · rintro ⟨k, hk, hn⟩ K2 hK2
      repeat' (first | (refine awp_seq_k fun _ _ => ?_) | (refine awp_block ?_) | ((first | (refine awp_rgn ?_) | (refine awp_any (by kernel_rfl) (by kernel_rfl) ?_) | (refine awp_cond_k fun _ _ _ _ => ?_)) <;> simp only [amS, amL, tyS, amB, Nat.reduceLT, Nat.reduceEqDiff, Nat.reduceAdd, Nat.reduceMul, Nat.reduceSub, Nat.reduceLeDiff, reduceCtorEq]) | (refine guard_split (fun hg => ?_) (fun hg => ?_) <;> simp only [hg, amS, amL, tyS, amB, Nat.reduceLT, Nat.reduceEqDiff, Nat.reduceAdd, Nat.reduceMul, Nat.reduceSub, Nat.reduceLeDiff, reduceCtorEq]) | (refine awp_skip ?_; simp only [amS]) | (refine awp_exit ?_; simp only [amS, if_true, if_false, Nat.reduceEqDiff]) | (refine awp_ret ?_; try simp only [amS]) | (refine Cont.go (by assumption) ?_) | (refine Arm.go (by assumption) ?_))
      refine ⟨fun h => ?_, fun h => ?_⟩
      · have hlt : k < a.length := by simpa using h
        obtain ⟨v, hv⟩ : ∃ v, a[k]? = some v := ⟨_, List.getElem?_eq_getElem hlt⟩
        obtain ⟨u, hu⟩ : ∃ v, b[k]? = some v := ⟨_, List.getElem?_eq_getElem (by omega)⟩
        repeat' (first | (refine awp_seq_k fun _ _ => ?_) | (refine awp_block ?_) | ((first | (refine awp_rgn ?_) | (refine awp_any (by kernel_rfl) (by kernel_rfl) ?_) | (refine awp_cond_k fun _ _ _ _ => ?_)) <;> simp only [amS, amL, tyS, amB, Nat.reduceLT, Nat.reduceEqDiff, Nat.reduceAdd, Nat.reduceMul, Nat.reduceSub, Nat.reduceLeDiff, reduceCtorEq, hv, hu]) | (refine guard_split (fun hg => ?_) (fun hg => ?_) <;> simp only [hg, amS, amL, tyS, amB, Nat.reduceLT, Nat.reduceEqDiff, Nat.reduceAdd, Nat.reduceMul, Nat.reduceSub, Nat.reduceLeDiff, reduceCtorEq, hv, hu]) | (refine awp_skip ?_; simp only [amS]) | (refine awp_exit ?_; simp only [amS, if_true, if_false, Nat.reduceEqDiff]) | (refine awp_ret ?_; try simp only [amS]) | (refine Cont.go (by assumption) ?_) | (refine Arm.go (by assumption) ?_))
        have hw := wrap_succ (k := k) hlt (by omega)
        refine ⟨fun hne => ?_, fun h => ?_⟩
        · repeat' (first | (refine awp_seq_k fun _ _ => ?_) | (refine awp_block ?_) | ((first | (refine awp_rgn ?_) | (refine awp_any (by kernel_rfl) (by kernel_rfl) ?_) | (refine awp_cond_k fun _ _ _ _ => ?_)) <;> simp only [amS, amL, tyS, amB, Nat.reduceLT, Nat.reduceEqDiff, Nat.reduceAdd, Nat.reduceMul, Nat.reduceSub, Nat.reduceLeDiff, reduceCtorEq]) | (refine guard_split (fun hg => ?_) (fun hg => ?_) <;> simp only [hg, amS, amL, tyS, amB, Nat.reduceLT, Nat.reduceEqDiff, Nat.reduceAdd, Nat.reduceMul, Nat.reduceSub, Nat.reduceLeDiff, reduceCtorEq]) | (refine awp_skip ?_; simp only [amS]) | (refine awp_exit ?_; simp only [amS, if_true, if_false, Nat.reduceEqDiff]) | (refine awp_ret ?_; try simp only [amS]) | (refine Cont.go (by assumption) ?_) | (refine Arm.go (by assumption) ?_))
          refine body_ret1 rfl ?_
          simp only [amS, if_true, if_false]
          rw [AV.bool.injEq, eq_comm, decide_eq_false_iff_not]
          intro e
          rw [e, hu] at hv
          injection hv with hv
          rw [hv] at hne
          simp at hne
        · repeat' (first | (refine awp_seq_k fun _ _ => ?_) | (refine awp_block ?_) | ((first | (refine awp_rgn ?_) | (refine awp_any (by kernel_rfl) (by kernel_rfl) ?_) | (refine awp_cond_k fun _ _ _ _ => ?_)) <;> simp only [amS, amL, tyS, amB, Nat.reduceLT, Nat.reduceEqDiff, Nat.reduceAdd, Nat.reduceMul, Nat.reduceSub, Nat.reduceLeDiff, reduceCtorEq, hw]) | (refine guard_split (fun hg => ?_) (fun hg => ?_) <;> simp only [hg, amS, amL, tyS, amB, Nat.reduceLT, Nat.reduceEqDiff, Nat.reduceAdd, Nat.reduceMul, Nat.reduceSub, Nat.reduceLeDiff, reduceCtorEq, hw]) | (refine awp_skip ?_; simp only [amS]) | (refine awp_exit ?_; simp only [amS, if_true, if_false, Nat.reduceEqDiff]) | (refine awp_ret ?_; try simp only [amS]) | (refine Cont.go (by assumption) ?_) | (refine Arm.go (by assumption) ?_))
          refine Again.go hK2 ⟨k + 1, hlt, ?_⟩ ⟨?_, .inl ?_⟩ ?_
          · rw [List.take_add_one, List.take_add_one, hv, hu, hn]
            have : v = u := by simpa using h
            rw [this]
          · simp only [amS, if_true, if_false, Nat.reduceEqDiff, and_self]
          · simp only [amS]
          · simp; omega
      · repeat' (first | (refine awp_seq_k fun _ _ => ?_) | (refine awp_block ?_) | ((first | (refine awp_rgn ?_) | (refine awp_any (by kernel_rfl) (by kernel_rfl) ?_) | (refine awp_cond_k fun _ _ _ _ => ?_)) <;> simp only [amS, amL, tyS, amB, Nat.reduceLT, Nat.reduceEqDiff, Nat.reduceAdd, Nat.reduceMul, Nat.reduceSub, Nat.reduceLeDiff, reduceCtorEq]) | (refine guard_split (fun hg => ?_) (fun hg => ?_) <;> simp only [hg, amS, amL, tyS, amB, Nat.reduceLT, Nat.reduceEqDiff, Nat.reduceAdd, Nat.reduceMul, Nat.reduceSub, Nat.reduceLeDiff, reduceCtorEq]) | (refine awp_skip ?_; simp only [amS]) | (refine awp_exit ?_; simp only [amS, if_true, if_false, Nat.reduceEqDiff]) | (refine awp_ret ?_; try simp only [amS]) | (refine Cont.go (by assumption) ?_) | (refine Arm.go (by assumption) ?_))
        refine body_ret1 rfl ?_
        simp only [amS, if_true, if_false]
        rw [AV.bool.injEq, eq_comm, decide_eq_true_eq]
        have : k = a.length := by simp at h; omega
        subst this
        rw [List.take_length, hlen, List.take_length] at hn
        exact hn

/-- Sorted, by neighbours. -/
def SortedL (l : List Int) : Prop := ∀ j v u, l[j]? = some v → l[j + 1]? = some u → v ≤ u
def sortedB : List Int → Bool
  | a :: b :: l => decide (a ≤ b) && sortedB (b :: l)
  | _ => true
theorem sortedB_iff : ∀ (l : List Int), sortedB l = true ↔ SortedL l
  | [] => by simp [sortedB, SortedL]
  | [a] => by simp [sortedB, SortedL]
  | a :: b :: l => by
    have ih := sortedB_iff (b :: l)
    simp only [sortedB, Bool.and_eq_true, decide_eq_true_eq, ih]
    constructor
    · rintro ⟨h1, h2⟩ j v u hv hu
      cases j with
      | zero => simp at hv hu; omega
      | succ j => exact h2 j v u (by simpa using hv) (by simpa using hu)
    · intro h
      exact ⟨h 0 a b rfl rfl, fun j v u hv hu => h (j + 1) v u (by simpa using hv) (by simpa using hu)⟩

theorem isSorted_25 (l : List Int) (hl : Small l.length) : Pure Try.prog G0 25 [encI l] (.bool (sortedB l)) := by
  unfold Small at hl
  refine pure_of_body hG0 Try.func25 rfl (by kernel_rfl) (by simp [Try.ntmps25]) (by simp [inL, inR, encI, tree_ints]) (by simp [inR]) ?_
  have hw0 : IntKind.i64.wrap ((l.length : Int) - 1) = (l.length : Int) - 1 := wrap_id (by omega) (by omega)
  simp only [Try.ntmps25, enterF, encI, Nat.reduceAdd]
  repeat' (first | (refine awp_seq_k fun _ _ => ?_) | (refine awp_block ?_) | ((first | (refine awp_rgn ?_) | (refine awp_any (by kernel_rfl) (by kernel_rfl) ?_) | (refine awp_cond_k fun _ _ _ _ => ?_)) <;> simp only [amS, amL, tyS, amB, Nat.reduceLT, Nat.reduceEqDiff, Nat.reduceAdd, Nat.reduceMul, Nat.reduceSub, Nat.reduceLeDiff, reduceCtorEq, hw0]) | (refine guard_split (fun hg => ?_) (fun hg => ?_) <;> simp only [hg, amS, amL, tyS, amB, Nat.reduceLT, Nat.reduceEqDiff, Nat.reduceAdd, Nat.reduceMul, Nat.reduceSub, Nat.reduceLeDiff, reduceCtorEq, hw0]) | (refine awp_skip ?_; simp only [amS]) | (refine awp_exit ?_; simp only [amS, if_true, if_false, Nat.reduceEqDiff]) | (refine awp_ret ?_; try simp only [amS]) | (refine Cont.go (by assumption) ?_) | (refine Arm.go (by assumption) ?_))
  refine awp_loop_k (α := {k : Int // -1 ≤ k ∧ k ≤ (l.length : Int) - 1 ∧ ∀ j : Nat, k ≤ (j : Int) → ∀ v u, l[j]? = some v → l[j + 1]? = some u → v ≤ u}) (fun k => [(0, .sl false (l.map fun n => [.int .i64 n])), (3, .int .i64 k.1)]) (fun _ => []) (fun k => (k.1 + 1).toNat) ⟨(l.length : Int) - 1, by omega, by omega, ?_⟩ ⟨?_, .inl ?_⟩ ?_
  · intro j hj v u h1 h2
    have := (List.getElem?_eq_some_iff.1 h2).1
    omega
  · simp [amS]
  · simp only [amS]
  · rintro ⟨k, hk0, hk, hn⟩ K2 hK2
    repeat' (first | (refine awp_seq_k fun _ _ => ?_) | (refine awp_block ?_) | ((first | (refine awp_rgn ?_) | (refine awp_any (by kernel_rfl) (by kernel_rfl) ?_) | (refine awp_cond_k fun _ _ _ _ => ?_)) <;> simp only [amS, amL, tyS, amB, Nat.reduceLT, Nat.reduceEqDiff, Nat.reduceAdd, Nat.reduceMul, Nat.reduceSub, Nat.reduceLeDiff, reduceCtorEq]) | (refine guard_split (fun hg => ?_) (fun hg => ?_) <;> simp only [hg, amS, amL, tyS, amB, Nat.reduceLT, Nat.reduceEqDiff, Nat.reduceAdd, Nat.reduceMul, Nat.reduceSub, Nat.reduceLeDiff, reduceCtorEq]) | (refine awp_skip ?_; simp only [amS]) | (refine awp_exit ?_; simp only [amS, if_true, if_false, Nat.reduceEqDiff]) | (refine awp_ret ?_; try simp only [amS]) | (refine Cont.go (by assumption) ?_) | (refine Arm.go (by assumption) ?_))
    refine ⟨fun h => ?_, fun h => ?_⟩
    · have h0 : 0 < k := by simpa using h
      have hw : IntKind.i64.wrap (k - 1) = k - 1 := wrap_id (by omega) (by omega)
      have hk1 : 0 ≤ k := by omega
      have hk2 : 0 ≤ k - 1 := by omega
      have ek : k.toNat = (k - 1).toNat + 1 := by omega
      obtain ⟨v, hv⟩ : ∃ v, l[k.toNat]? = some v := ⟨_, List.getElem?_eq_getElem (by omega)⟩
      obtain ⟨u, hu⟩ : ∃ v, l[(k - 1).toNat]? = some v := ⟨_, List.getElem?_eq_getElem (by omega)⟩
      repeat' (first | (refine awp_seq_k fun _ _ => ?_) | (refine awp_block ?_) | ((first | (refine awp_rgn ?_) | (refine awp_any (by kernel_rfl) (by kernel_rfl) ?_) | (refine awp_cond_k fun _ _ _ _ => ?_)) <;> simp only [amS, amL, tyS, amB, Nat.reduceLT, Nat.reduceEqDiff, Nat.reduceAdd, Nat.reduceMul, Nat.reduceSub, Nat.reduceLeDiff, reduceCtorEq, hv, hu, hw, hk1, hk2]) | (refine guard_split (fun hg => ?_) (fun hg => ?_) <;> simp only [hg, amS, amL, tyS, amB, Nat.reduceLT, Nat.reduceEqDiff, Nat.reduceAdd, Nat.reduceMul, Nat.reduceSub, Nat.reduceLeDiff, reduceCtorEq, hv, hu, hw, hk1, hk2]) | (refine awp_skip ?_; simp only [amS]) | (refine awp_exit ?_; simp only [amS, if_true, if_false, Nat.reduceEqDiff]) | (refine awp_ret ?_; try simp only [amS]) | (refine Cont.go (by assumption) ?_) | (refine Arm.go (by assumption) ?_))
      refine callR_tree hG0 (less_43 v u) ?_
      simp only [amS, amL, tyS, amB, Nat.reduceLT, Nat.reduceEqDiff, Nat.reduceAdd, Nat.reduceMul, Nat.reduceSub, Nat.reduceLeDiff, reduceCtorEq]
      repeat' (first | (refine awp_seq_k fun _ _ => ?_) | (refine awp_block ?_) | ((first | (refine awp_rgn ?_) | (refine awp_any (by kernel_rfl) (by kernel_rfl) ?_) | (refine awp_cond_k fun _ _ _ _ => ?_)) <;> simp only [amS, amL, tyS, amB, Nat.reduceLT, Nat.reduceEqDiff, Nat.reduceAdd, Nat.reduceMul, Nat.reduceSub, Nat.reduceLeDiff, reduceCtorEq]) | (refine guard_split (fun hg => ?_) (fun hg => ?_) <;> simp only [hg, amS, amL, tyS, amB, Nat.reduceLT, Nat.reduceEqDiff, Nat.reduceAdd, Nat.reduceMul, Nat.reduceSub, Nat.reduceLeDiff, reduceCtorEq]) | (refine awp_skip ?_; simp only [amS]) | (refine awp_exit ?_; simp only [amS, if_true, if_false, Nat.reduceEqDiff]) | (refine awp_ret ?_; try simp only [amS]) | (refine Cont.go (by assumption) ?_) | (refine Arm.go (by assumption) ?_))
      refine ⟨fun h => ?_, fun h => ?_⟩
      · repeat' (first | (refine awp_seq_k fun _ _ => ?_) | (refine awp_block ?_) | ((first | (refine awp_rgn ?_) | (refine awp_any (by kernel_rfl) (by kernel_rfl) ?_) | (refine awp_cond_k fun _ _ _ _ => ?_)) <;> simp only [amS, amL, tyS, amB, Nat.reduceLT, Nat.reduceEqDiff, Nat.reduceAdd, Nat.reduceMul, Nat.reduceSub, Nat.reduceLeDiff, reduceCtorEq]) | (refine guard_split (fun hg => ?_) (fun hg => ?_) <;> simp only [hg, amS, amL, tyS, amB, Nat.reduceLT, Nat.reduceEqDiff, Nat.reduceAdd, Nat.reduceMul, Nat.reduceSub, Nat.reduceLeDiff, reduceCtorEq]) | (refine awp_skip ?_; simp only [amS]) | (refine awp_exit ?_; simp only [amS, if_true, if_false, Nat.reduceEqDiff]) | (refine awp_ret ?_; try simp only [amS]) | (refine Cont.go (by assumption) ?_) | (refine Arm.go (by assumption) ?_))
        refine body_ret1 rfl ?_
        simp only [amS, if_true, if_false]
        rw [AV.bool.injEq, eq_comm, ← Bool.not_eq_true, sortedB_iff]
        intro hs
        have := hs _ _ _ hu (by rw [← ek]; exact hv)
        simp at h
        omega
      · repeat' (first | (refine awp_seq_k fun _ _ => ?_) | (refine awp_block ?_) | ((first | (refine awp_rgn ?_) | (refine awp_any (by kernel_rfl) (by kernel_rfl) ?_) | (refine awp_cond_k fun _ _ _ _ => ?_)) <;> simp only [amS, amL, tyS, amB, Nat.reduceLT, Nat.reduceEqDiff, Nat.reduceAdd, Nat.reduceMul, Nat.reduceSub, Nat.reduceLeDiff, reduceCtorEq, hw]) | (refine guard_split (fun hg => ?_) (fun hg => ?_) <;> simp only [hg, amS, amL, tyS, amB, Nat.reduceLT, Nat.reduceEqDiff, Nat.reduceAdd, Nat.reduceMul, Nat.reduceSub, Nat.reduceLeDiff, reduceCtorEq, hw]) | (refine awp_skip ?_; simp only [amS]) | (refine awp_exit ?_; simp only [amS, if_true, if_false, Nat.reduceEqDiff]) | (refine awp_ret ?_; try simp only [amS]) | (refine Cont.go (by assumption) ?_) | (refine Arm.go (by assumption) ?_))
        refine Again.go hK2 ⟨k - 1, by omega, by omega, ?_⟩ ⟨?_, .inl ?_⟩ ?_
        · intro j hj v' u' h1 h2
          by_cases e : k ≤ j
          · exact hn j e v' u' h1 h2
          · have ej : j = (k - 1).toNat := by omega
            subst ej
            rw [← ek, hv] at h2
            rw [hu] at h1
            injection h1 with h1
            injection h2 with h2
            simp at h
            omega
        · simp only [amS, if_true, if_false, Nat.reduceEqDiff, and_self]
        · simp only [amS]
        · simp; omega
    · repeat' (first | (refine awp_seq_k fun _ _ => ?_) | (refine awp_block ?_) | ((first | (refine awp_rgn ?_) | (refine awp_any (by kernel_rfl) (by kernel_rfl) ?_) | (refine awp_cond_k fun _ _ _ _ => ?_)) <;> simp only [amS, amL, tyS, amB, Nat.reduceLT, Nat.reduceEqDiff, Nat.reduceAdd, Nat.reduceMul, Nat.reduceSub, Nat.reduceLeDiff, reduceCtorEq]) | (refine guard_split (fun hg => ?_) (fun hg => ?_) <;> simp only [hg, amS, amL, tyS, amB, Nat.reduceLT, Nat.reduceEqDiff, Nat.reduceAdd, Nat.reduceMul, Nat.reduceSub, Nat.reduceLeDiff, reduceCtorEq]) | (refine awp_skip ?_; simp only [amS]) | (refine awp_exit ?_; simp only [amS, if_true, if_false, Nat.reduceEqDiff]) | (refine awp_ret ?_; try simp only [amS]) | (refine Cont.go (by assumption) ?_) | (refine Arm.go (by assumption) ?_))
      refine body_ret1 rfl ?_
      simp only [amS, if_true, if_false]
      rw [AV.bool.injEq, eq_comm, sortedB_iff]
      intro j v u h1 h2
      exact hn j (by simp at h; omega) v u h1 h2

end Go.Proofs.Ytgenkkejlggmnaa
