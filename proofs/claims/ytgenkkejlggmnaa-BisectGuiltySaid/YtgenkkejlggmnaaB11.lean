import Derived.Test.YtgenkkejlggmnaaAB
import Derived.Test.YtgenkkejlggmnaaB10
set_option linter.unusedVariables false
set_option linter.unusedSimpArgs false
namespace Go.Proofs.Ytgenkkejlggmnaa
open Go.AM

/-- A search, step by step: what is to do, what was seen, the end. -/
inductive LookN (l : List V) (bad : List Int) : Nat → List Int → List Int → List Int → Prop
  | nil {out : List Int} : LookN l bad 0 [] out out
  | seen {n : Nat} {v : Int} {todo out r : List Int} (h : hasL out v = true) (hn : LookN l bad n todo out r) : LookN l bad (n + 1) (v :: todo) out r
  | leaf {n : Nat} {v : Int} {todo out r : List Int} (h : hasL out v = false) (hb : hasL bad v = false) (hn : LookN l bad n todo (out ++ [v]) r) : LookN l bad (n + 1) (v :: todo) out r
  | node {n : Nat} {v : Int} {todo out r : List Int} (h : hasL out v = false) (hb : hasL bad v = true) (i : Nat) (w : V) (hf : findGo l v 0 = i) (hw : l[i]? = some w) (hn : LookN l bad n (w.before ++ todo) (out ++ [v]) r) : LookN l bad (n + 1) (v :: todo) out r

theorem LookN.todo_len {l : List V} {bad : List Int} {n : Nat} {todo out r : List Int} (h : LookN l bad n todo out r) : todo.length ≤ n := by
  induction h with
  | nil => simp
  | seen h hn ih => simp; omega
  | leaf h hb hn ih => simp; omega
  | node h hb i w hf hw hn ih => simp at ih ⊢; omega
theorem LookN.out_len {l : List V} {bad : List Int} {n : Nat} {todo out r : List Int} (h : LookN l bad n todo out r) : out.length ≤ r.length := by
  induction h with
  | nil => simp
  | seen h hn ih => exact ih
  | leaf h hb hn ih => simp at ih; omega
  | node h hb i w hf hw hn ih => simp at ih; omega
theorem LookN.r_len {l : List V} {bad : List Int} {n : Nat} {todo out r : List Int} (h : LookN l bad n todo out r) : r.length ≤ out.length + n := by
  induction h with
  | nil => simp
  | seen h hn ih => omega
  | leaf h hb hn ih => simp at ih; omega
  | node h hb i w hf hw hn ih => simp at ih; omega

theorem cI_cons (v : Int) (l : List Int) : cI (v :: l) = [.int .i64 v] :: cI l := rfl
theorem cI_flat_len (l : List Int) : (cI l).flatten.length = l.length := by rw [flat_sz (sz1 l), cI_len, Nat.mul_one]
theorem cI_take (l : List Int) : (cI l).take l.length = cI l := List.take_of_length_le (by rw [cI_len]; exact Nat.le_refl _)
theorem cI_app (a b : List Int) : cI (a ++ b) = cI a ++ cI b := by simp [cI]
theorem cI_all (l : List Int) : (cI l).all (fun e => decide (e.length = 1)) = true := all1 l

theorem accH_over {base app : List (List AV)} : (accH [] base app).getD 1 .none = .none := by
  unfold accH
  split <;> rfl

set_option maxHeartbeats 4000000 in
theorem looked_40 (l : List V) (id : Int) (bad : List Int) (n : Nat) (r : List Int) (h0 : LookN l bad n [id] [] r) (hn : n ≤ 1000000) (hl : Small l.length) (hbad : Small bad.length) : Pure Try.prog G0 40 [encVs l, .int .i64 id, encI bad] (encI r) := by
  have hrl := h0.r_len
  simp at hrl
  refine pure_of_bodyW hG0 Try.func40 rfl (by kernel_rfl) (by simp [Try.ntmps40]) (by simp [inL, inR, tree_encVs, tree_encI]) (tree_encI _) ?_
  simp only [Try.ntmps40, enterF, Nat.reduceAdd]
  repeat' (first | (refine awp_seq_k fun _ _ => ?_) | (refine awp_block ?_) | ((first | (refine awp_rgn ?_) | (refine awp_any (by kernel_rfl) (by kernel_rfl) ?_) | (refine awp_cond_k fun _ _ _ _ => ?_)) <;> simp only [amS, amL, tyS, amB, Nat.reduceLT, Nat.reduceEqDiff, Nat.reduceAdd, Nat.reduceMul, Nat.reduceSub, Nat.reduceLeDiff, reduceCtorEq]) | (refine guard_split (fun hg => ?_) (fun hg => ?_) <;> simp only [hg, amS, amL, tyS, amB, Nat.reduceLT, Nat.reduceEqDiff, Nat.reduceAdd, Nat.reduceMul, Nat.reduceSub, Nat.reduceLeDiff, reduceCtorEq]) | (refine awp_skip ?_; simp only [amS]) | (refine awp_exit ?_; simp only [amS, if_true, if_false, Nat.reduceEqDiff]) | (refine awp_ret ?_; try simp only [amS]) | (refine Cont.go (by assumption) ?_) | (refine Arm.go (by assumption) ?_))
  refine awp_loop_r (α := {q : Nat × List Int × List Int // q.1 ≤ n ∧ LookN l bad q.1 q.2.1 q.2.2 r}) (fun q => [(0, encVs l), (2, encI bad), (7, accV [] 0 1 (cI q.1.2.2)), (8, .sl false (cI q.1.2.1))]) (fun q => accH [] [] (cI q.1.2.2)) (fun q => q.1.1) ⟨(n, [id], []), Nat.le_refl _, h0⟩ ?_ ?_
  · refine ref_freeze [] _ _ (by simp) ?_ (by simp [amS, FrzH, cI, accH_nil])
    refine ⟨.inl (by simp [amS]), .inl (by simp [amS]), .inl (by simp [amS, cI, accV_nil]), .inr ?_, trivial⟩
    simp only [amS, if_true, if_false, Nat.reduceEqDiff]
    exact .full (tree_ints [id])
  · rintro ⟨⟨m, todo, out⟩, hm, hL⟩ K2 hK2
    simp only at hm hL
    have hol := hL.out_len
    cases hL with
    | nil =>
      repeat' (first | (refine awp_seq_k fun _ _ => ?_) | (refine awp_block ?_) | ((first | (refine awp_rgn ?_) | (refine awp_any (by kernel_rfl) (by kernel_rfl) ?_) | (refine awp_cond_k fun _ _ _ _ => ?_)) <;> simp only [amS, amL, tyS, amB, Nat.reduceLT, Nat.reduceEqDiff, Nat.reduceAdd, Nat.reduceMul, Nat.reduceSub, Nat.reduceLeDiff, reduceCtorEq, cI_len]) | (refine guard_split (fun hg => ?_) (fun hg => ?_) <;> simp only [hg, amS, amL, tyS, amB, Nat.reduceLT, Nat.reduceEqDiff, Nat.reduceAdd, Nat.reduceMul, Nat.reduceSub, Nat.reduceLeDiff, reduceCtorEq, cI_len]) | (refine awp_skip ?_; simp only [amS]) | (refine awp_ret ?_; try simp only [amS]) | (refine Cont.go (by assumption) ?_) | (refine Arm.go (by assumption) ?_))
      refine ⟨fun h => ?_, fun h => ?_⟩
      · simp at h
      · repeat' (first | (refine awp_seq_k fun _ _ => ?_) | (refine awp_block ?_) | (refine awp_cond_k fun _ _ _ _ => ?_; simp only [amS, amL, tyS, amB, Nat.reduceLT, Nat.reduceEqDiff, Nat.reduceAdd, Nat.reduceMul, Nat.reduceSub, Nat.reduceLeDiff, reduceCtorEq]) | (refine awp_skip ?_; simp only [amS]) | (refine awp_exit ?_; simp only [amS, if_true, if_false, Nat.reduceEqDiff]) | (refine awp_ret ?_; try simp only [amS]) | (refine Cont.go (by assumption) ?_) | (refine Arm.go (by assumption) ?_))
        refine awp_acc_end (base := []) (app := cI r) (sz := 1) 7 [] hG0 rfl (by simp only [amS]) (by simp [amS]) (sz1n _) (tree_n _) trivial (by simp) ?_
        repeat' (first | (refine awp_seq_k fun _ _ => ?_) | (refine awp_block ?_) | ((first | (refine awp_rgn ?_) | (refine awp_any (by kernel_rfl) (by kernel_rfl) ?_) | (refine awp_cond_k fun _ _ _ _ => ?_)) <;> simp only [amS, amL, tyS, amB, Nat.reduceLT, Nat.reduceEqDiff, Nat.reduceAdd, Nat.reduceMul, Nat.reduceSub, Nat.reduceLeDiff, reduceCtorEq]) | (refine guard_split (fun hg => ?_) (fun hg => ?_) <;> simp only [hg, amS, amL, tyS, amB, Nat.reduceLT, Nat.reduceEqDiff, Nat.reduceAdd, Nat.reduceMul, Nat.reduceSub, Nat.reduceLeDiff, reduceCtorEq]) | (refine awp_skip ?_; simp only [amS]) | (refine awp_exit ?_; simp only [amS, if_true, if_false, Nat.reduceEqDiff]) | (refine awp_ret ?_; try simp only [amS]) | (refine Cont.go (by assumption) ?_) | (refine Arm.go (by assumption) ?_))
        refine body_ret1 rfl ?_
        simp only [amS, if_true, if_false]
        simp only [wk, List.nil_append, wk_cI, encI_cI]
    | @seen n' v tl _ _ hh hN =>
      repeat' (first | (refine awp_seq_k fun _ _ => ?_) | (refine awp_block ?_) | ((first | (refine awp_rgn ?_) | (refine awp_any (by kernel_rfl) (by kernel_rfl) ?_) | (refine awp_cond_k fun _ _ _ _ => ?_)) <;> simp only [amS, amL, tyS, amB, Nat.reduceLT, Nat.reduceEqDiff, Nat.reduceAdd, Nat.reduceMul, Nat.reduceSub, Nat.reduceLeDiff, reduceCtorEq, cI_cons, cI_len]) | (refine guard_split (fun hg => ?_) (fun hg => ?_) <;> simp only [hg, amS, amL, tyS, amB, Nat.reduceLT, Nat.reduceEqDiff, Nat.reduceAdd, Nat.reduceMul, Nat.reduceSub, Nat.reduceLeDiff, reduceCtorEq, cI_cons, cI_len]) | (refine awp_skip ?_; simp only [amS]) | (refine awp_ret ?_; try simp only [amS]) | (refine Cont.go (by assumption) ?_) | (refine Arm.go (by assumption) ?_))
      refine ⟨fun h => ?_, fun h => ?_⟩
      · have hsm : Small out.length := by unfold Small; omega
        repeat' (first | (refine awp_seq_k fun _ _ => ?_) | (refine awp_block ?_) | ((first | (refine awp_rgn ?_) | (refine awp_any (by kernel_rfl) (by kernel_rfl) ?_) | (refine awp_cond_k fun _ _ _ _ => ?_)) <;> simp only [amS, amL, tyS, amB, Nat.reduceLT, Nat.reduceEqDiff, Nat.reduceAdd, Nat.reduceMul, Nat.reduceSub, Nat.reduceLeDiff, reduceCtorEq, cI_cons, cI_len, Int.reduceLE, Int.reduceToNat, Int.toNat_one, Int.toNat_zero, Nat.le_add_left, Nat.le_refl, Nat.add_sub_cancel, cI_take, cI_all, Int.reduceNeg]) | (refine guard_split (fun hg => ?_) (fun hg => ?_) <;> simp only [hg, amS, amL, tyS, amB, Nat.reduceLT, Nat.reduceEqDiff, Nat.reduceAdd, Nat.reduceMul, Nat.reduceSub, Nat.reduceLeDiff, reduceCtorEq, cI_cons, cI_len, Int.reduceLE, Int.reduceToNat, Int.toNat_one, Int.toNat_zero, Nat.le_add_left, Nat.le_refl, Nat.add_sub_cancel, cI_take, cI_all, Int.reduceNeg]) | (refine awp_skip ?_; simp only [amS]) | (refine awp_exit ?_; simp only [amS, if_true, if_false, Nat.reduceEqDiff]) | (refine awp_ret ?_; try simp only [amS]) | (refine Cont.go (by assumption) ?_) | (refine Arm.go (by assumption) ?_))
        refine callR_pure (fp := [0]) hG0 (has_33 out v hsm) (.cons (acc_lend (H := []) (h := []) (by simp only [amS]) (sz1n out) (tree_n out)) (.cons (.same rfl) .nil)) (.inr rfl) ?_
        simp only [amS, amL, tyS, amB, Nat.reduceLT, Nat.reduceEqDiff, Nat.reduceAdd, Nat.reduceMul, Nat.reduceSub, Nat.reduceLeDiff, reduceCtorEq, hh]
        repeat' (first | (refine awp_seq_k fun _ _ => ?_) | (refine awp_block ?_) | ((first | (refine awp_rgn ?_) | (refine awp_any (by kernel_rfl) (by kernel_rfl) ?_) | (refine awp_cond_k fun _ _ _ _ => ?_)) <;> simp only [amS, amL, tyS, amB, Nat.reduceLT, Nat.reduceEqDiff, Nat.reduceAdd, Nat.reduceMul, Nat.reduceSub, Nat.reduceLeDiff, reduceCtorEq, hh]) | (refine guard_split (fun hg => ?_) (fun hg => ?_) <;> simp only [hg, amS, amL, tyS, amB, Nat.reduceLT, Nat.reduceEqDiff, Nat.reduceAdd, Nat.reduceMul, Nat.reduceSub, Nat.reduceLeDiff, reduceCtorEq, hh]) | (refine awp_skip ?_; simp only [amS]) | (refine awp_exit ?_; simp only [amS, if_true, if_false, Nat.reduceEqDiff]) | (refine awp_ret ?_; try simp only [amS]) | (refine Cont.go (by assumption) ?_) | (refine Arm.go (by assumption) ?_))
        refine AgainR.go hK2 ⟨(n', tl, out), by omega, hN⟩ (Weak.ref ⟨?_, .inl ?_⟩) (by simp)
        · simp only [amS, amL, tyS, amB, Nat.reduceLT, Nat.reduceEqDiff, Nat.reduceAdd, Nat.reduceMul, Nat.reduceSub, Nat.reduceLeDiff, reduceCtorEq]
        · simp only [amS, amL, tyS, amB, Nat.reduceLT, Nat.reduceEqDiff, Nat.reduceAdd, Nat.reduceMul, Nat.reduceSub, Nat.reduceLeDiff, reduceCtorEq]
      · simp at h
    | @leaf n' v tl _ _ hh hb hN =>
      repeat' (first | (refine awp_seq_k fun _ _ => ?_) | (refine awp_block ?_) | ((first | (refine awp_rgn ?_) | (refine awp_any (by kernel_rfl) (by kernel_rfl) ?_) | (refine awp_cond_k fun _ _ _ _ => ?_)) <;> simp only [amS, amL, tyS, amB, Nat.reduceLT, Nat.reduceEqDiff, Nat.reduceAdd, Nat.reduceMul, Nat.reduceSub, Nat.reduceLeDiff, reduceCtorEq, cI_cons, cI_len]) | (refine guard_split (fun hg => ?_) (fun hg => ?_) <;> simp only [hg, amS, amL, tyS, amB, Nat.reduceLT, Nat.reduceEqDiff, Nat.reduceAdd, Nat.reduceMul, Nat.reduceSub, Nat.reduceLeDiff, reduceCtorEq, cI_cons, cI_len]) | (refine awp_skip ?_; simp only [amS]) | (refine awp_ret ?_; try simp only [amS]) | (refine Cont.go (by assumption) ?_) | (refine Arm.go (by assumption) ?_))
      refine ⟨fun h => ?_, fun h => ?_⟩
      · have hsm : Small out.length := by unfold Small; omega
        repeat' (first | (refine awp_seq_k fun _ _ => ?_) | (refine awp_block ?_) | ((first | (refine awp_rgn ?_) | (refine awp_any (by kernel_rfl) (by kernel_rfl) ?_) | (refine awp_cond_k fun _ _ _ _ => ?_)) <;> simp only [amS, amL, tyS, amB, Nat.reduceLT, Nat.reduceEqDiff, Nat.reduceAdd, Nat.reduceMul, Nat.reduceSub, Nat.reduceLeDiff, reduceCtorEq, cI_cons, cI_len, Int.reduceLE, Int.reduceToNat, Int.toNat_one, Int.toNat_zero, Nat.le_add_left, Nat.le_refl, Nat.add_sub_cancel, cI_take, cI_all, Int.reduceNeg]) | (refine guard_split (fun hg => ?_) (fun hg => ?_) <;> simp only [hg, amS, amL, tyS, amB, Nat.reduceLT, Nat.reduceEqDiff, Nat.reduceAdd, Nat.reduceMul, Nat.reduceSub, Nat.reduceLeDiff, reduceCtorEq, cI_cons, cI_len, Int.reduceLE, Int.reduceToNat, Int.toNat_one, Int.toNat_zero, Nat.le_add_left, Nat.le_refl, Nat.add_sub_cancel, cI_take, cI_all, Int.reduceNeg]) | (refine awp_skip ?_; simp only [amS]) | (refine awp_exit ?_; simp only [amS, if_true, if_false, Nat.reduceEqDiff]) | (refine awp_ret ?_; try simp only [amS]) | (refine Cont.go (by assumption) ?_) | (refine Arm.go (by assumption) ?_))
        refine callR_pure (fp := [0]) hG0 (has_33 out v hsm) (.cons (acc_lend (H := []) (h := []) (by simp only [amS]) (sz1n out) (tree_n out)) (.cons (.same rfl) .nil)) (.inr rfl) ?_
        simp only [amS, amL, tyS, amB, Nat.reduceLT, Nat.reduceEqDiff, Nat.reduceAdd, Nat.reduceMul, Nat.reduceSub, Nat.reduceLeDiff, reduceCtorEq, hh]
        repeat' (first | (refine awp_seq_k fun _ _ => ?_) | (refine awp_block ?_) | ((first | (refine awp_rgn ?_) | (refine awp_any (by kernel_rfl) (by kernel_rfl) ?_) | (refine awp_cond_k fun _ _ _ _ => ?_)) <;> simp only [amS, amL, tyS, amB, Nat.reduceLT, Nat.reduceEqDiff, Nat.reduceAdd, Nat.reduceMul, Nat.reduceSub, Nat.reduceLeDiff, reduceCtorEq, hh]) | (refine guard_split (fun hg => ?_) (fun hg => ?_) <;> simp only [hg, amS, amL, tyS, amB, Nat.reduceLT, Nat.reduceEqDiff, Nat.reduceAdd, Nat.reduceMul, Nat.reduceSub, Nat.reduceLeDiff, reduceCtorEq, hh]) | (refine awp_skip ?_; simp only [amS]) | (refine awp_exit ?_; simp only [amS, if_true, if_false, Nat.reduceEqDiff]) | (refine awp_ret ?_; try simp only [amS]) | (refine Cont.go (by assumption) ?_) | (refine Arm.go (by assumption) ?_))
        refine eff_acc (H := []) (base := []) (app := cI out) (e := [.int .i64 v]) (by' := 8) (by kernel_rfl) rfl rfl rfl (sz1n _) (by simp [srcA]) (by rw [cI_len]; simp only [List.length_nil]; omega) ?_
        simp only [amS, amL, tyS, amB, Nat.reduceLT, Nat.reduceEqDiff, Nat.reduceAdd, Nat.reduceMul, Nat.reduceSub, Nat.reduceLeDiff, reduceCtorEq, ← cI_snoc]
        repeat' (first | (refine awp_seq_k fun _ _ => ?_) | (refine awp_block ?_) | ((first | (refine awp_rgn ?_) | (refine awp_any (by kernel_rfl) (by kernel_rfl) ?_) | (refine awp_cond_k fun _ _ _ _ => ?_)) <;> simp only [amS, amL, tyS, amB, Nat.reduceLT, Nat.reduceEqDiff, Nat.reduceAdd, Nat.reduceMul, Nat.reduceSub, Nat.reduceLeDiff, reduceCtorEq]) | (refine guard_split (fun hg => ?_) (fun hg => ?_) <;> simp only [hg, amS, amL, tyS, amB, Nat.reduceLT, Nat.reduceEqDiff, Nat.reduceAdd, Nat.reduceMul, Nat.reduceSub, Nat.reduceLeDiff, reduceCtorEq]) | (refine awp_skip ?_; simp only [amS]) | (refine awp_exit ?_; simp only [amS, if_true, if_false, Nat.reduceEqDiff]) | (refine awp_ret ?_; try simp only [amS]) | (refine Cont.go (by assumption) ?_) | (refine Arm.go (by assumption) ?_))
        refine callR_tree hG0 (has_33 bad v hbad) ?_
        simp only [amS, amL, tyS, amB, Nat.reduceLT, Nat.reduceEqDiff, Nat.reduceAdd, Nat.reduceMul, Nat.reduceSub, Nat.reduceLeDiff, reduceCtorEq, hb]
        repeat' (first | (refine awp_seq_k fun _ _ => ?_) | (refine awp_block ?_) | ((first | (refine awp_rgn ?_) | (refine awp_any (by kernel_rfl) (by kernel_rfl) ?_) | (refine awp_cond_k fun _ _ _ _ => ?_)) <;> simp only [amS, amL, tyS, amB, Nat.reduceLT, Nat.reduceEqDiff, Nat.reduceAdd, Nat.reduceMul, Nat.reduceSub, Nat.reduceLeDiff, reduceCtorEq, hb]) | (refine guard_split (fun hg => ?_) (fun hg => ?_) <;> simp only [hg, amS, amL, tyS, amB, Nat.reduceLT, Nat.reduceEqDiff, Nat.reduceAdd, Nat.reduceMul, Nat.reduceSub, Nat.reduceLeDiff, reduceCtorEq, hb]) | (refine awp_skip ?_; simp only [amS]) | (refine awp_exit ?_; simp only [amS, if_true, if_false, Nat.reduceEqDiff]) | (refine awp_ret ?_; try simp only [amS]) | (refine Cont.go (by assumption) ?_) | (refine Arm.go (by assumption) ?_))
        refine AgainR.go hK2 ⟨(n', tl, out ++ [v]), by omega, hN⟩ (Weak.ref ⟨?_, .inl ?_⟩) (by simp)
        · simp only [amS, amL, tyS, amB, Nat.reduceLT, Nat.reduceEqDiff, Nat.reduceAdd, Nat.reduceMul, Nat.reduceSub, Nat.reduceLeDiff, reduceCtorEq, cI_snoc]
        · simp only [amS, amL, tyS, amB, Nat.reduceLT, Nat.reduceEqDiff, Nat.reduceAdd, Nat.reduceMul, Nat.reduceSub, Nat.reduceLeDiff, reduceCtorEq, cI_snoc]
      · simp at h
    | @node n' v tl _ _ hh hb i w hf hw hN =>
      repeat' (first | (refine awp_seq_k fun _ _ => ?_) | (refine awp_block ?_) | ((first | (refine awp_rgn ?_) | (refine awp_any (by kernel_rfl) (by kernel_rfl) ?_) | (refine awp_cond_k fun _ _ _ _ => ?_)) <;> simp only [amS, amL, tyS, amB, Nat.reduceLT, Nat.reduceEqDiff, Nat.reduceAdd, Nat.reduceMul, Nat.reduceSub, Nat.reduceLeDiff, reduceCtorEq, cI_cons, cI_len]) | (refine guard_split (fun hg => ?_) (fun hg => ?_) <;> simp only [hg, amS, amL, tyS, amB, Nat.reduceLT, Nat.reduceEqDiff, Nat.reduceAdd, Nat.reduceMul, Nat.reduceSub, Nat.reduceLeDiff, reduceCtorEq, cI_cons, cI_len]) | (refine awp_skip ?_; simp only [amS]) | (refine awp_ret ?_; try simp only [amS]) | (refine Cont.go (by assumption) ?_) | (refine Arm.go (by assumption) ?_))
      refine ⟨fun h => ?_, fun h => ?_⟩
      · have hsm : Small out.length := by unfold Small; omega
        repeat' (first | (refine awp_seq_k fun _ _ => ?_) | (refine awp_block ?_) | ((first | (refine awp_rgn ?_) | (refine awp_any (by kernel_rfl) (by kernel_rfl) ?_) | (refine awp_cond_k fun _ _ _ _ => ?_)) <;> simp only [amS, amL, tyS, amB, Nat.reduceLT, Nat.reduceEqDiff, Nat.reduceAdd, Nat.reduceMul, Nat.reduceSub, Nat.reduceLeDiff, reduceCtorEq, cI_cons, cI_len, Int.reduceLE, Int.reduceToNat, Int.toNat_one, Int.toNat_zero, Nat.le_add_left, Nat.le_refl, Nat.add_sub_cancel, cI_take, cI_all, Int.reduceNeg]) | (refine guard_split (fun hg => ?_) (fun hg => ?_) <;> simp only [hg, amS, amL, tyS, amB, Nat.reduceLT, Nat.reduceEqDiff, Nat.reduceAdd, Nat.reduceMul, Nat.reduceSub, Nat.reduceLeDiff, reduceCtorEq, cI_cons, cI_len, Int.reduceLE, Int.reduceToNat, Int.toNat_one, Int.toNat_zero, Nat.le_add_left, Nat.le_refl, Nat.add_sub_cancel, cI_take, cI_all, Int.reduceNeg]) | (refine awp_skip ?_; simp only [amS]) | (refine awp_exit ?_; simp only [amS, if_true, if_false, Nat.reduceEqDiff]) | (refine awp_ret ?_; try simp only [amS]) | (refine Cont.go (by assumption) ?_) | (refine Arm.go (by assumption) ?_))
        refine callR_pure (fp := [0]) hG0 (has_33 out v hsm) (.cons (acc_lend (H := []) (h := []) (by simp only [amS]) (sz1n out) (tree_n out)) (.cons (.same rfl) .nil)) (.inr rfl) ?_
        simp only [amS, amL, tyS, amB, Nat.reduceLT, Nat.reduceEqDiff, Nat.reduceAdd, Nat.reduceMul, Nat.reduceSub, Nat.reduceLeDiff, reduceCtorEq, hh]
        repeat' (first | (refine awp_seq_k fun _ _ => ?_) | (refine awp_block ?_) | ((first | (refine awp_rgn ?_) | (refine awp_any (by kernel_rfl) (by kernel_rfl) ?_) | (refine awp_cond_k fun _ _ _ _ => ?_)) <;> simp only [amS, amL, tyS, amB, Nat.reduceLT, Nat.reduceEqDiff, Nat.reduceAdd, Nat.reduceMul, Nat.reduceSub, Nat.reduceLeDiff, reduceCtorEq, hh]) | (refine guard_split (fun hg => ?_) (fun hg => ?_) <;> simp only [hg, amS, amL, tyS, amB, Nat.reduceLT, Nat.reduceEqDiff, Nat.reduceAdd, Nat.reduceMul, Nat.reduceSub, Nat.reduceLeDiff, reduceCtorEq, hh]) | (refine awp_skip ?_; simp only [amS]) | (refine awp_exit ?_; simp only [amS, if_true, if_false, Nat.reduceEqDiff]) | (refine awp_ret ?_; try simp only [amS]) | (refine Cont.go (by assumption) ?_) | (refine Arm.go (by assumption) ?_))
        refine eff_acc (H := []) (base := []) (app := cI out) (e := [.int .i64 v]) (by' := 8) (by kernel_rfl) rfl rfl rfl (sz1n _) (by simp [srcA]) (by rw [cI_len]; simp only [List.length_nil]; omega) ?_
        simp only [amS, amL, tyS, amB, Nat.reduceLT, Nat.reduceEqDiff, Nat.reduceAdd, Nat.reduceMul, Nat.reduceSub, Nat.reduceLeDiff, reduceCtorEq, ← cI_snoc]
        repeat' (first | (refine awp_seq_k fun _ _ => ?_) | (refine awp_block ?_) | ((first | (refine awp_rgn ?_) | (refine awp_any (by kernel_rfl) (by kernel_rfl) ?_) | (refine awp_cond_k fun _ _ _ _ => ?_)) <;> simp only [amS, amL, tyS, amB, Nat.reduceLT, Nat.reduceEqDiff, Nat.reduceAdd, Nat.reduceMul, Nat.reduceSub, Nat.reduceLeDiff, reduceCtorEq]) | (refine guard_split (fun hg => ?_) (fun hg => ?_) <;> simp only [hg, amS, amL, tyS, amB, Nat.reduceLT, Nat.reduceEqDiff, Nat.reduceAdd, Nat.reduceMul, Nat.reduceSub, Nat.reduceLeDiff, reduceCtorEq]) | (refine awp_skip ?_; simp only [amS]) | (refine awp_exit ?_; simp only [amS, if_true, if_false, Nat.reduceEqDiff]) | (refine awp_ret ?_; try simp only [amS]) | (refine Cont.go (by assumption) ?_) | (refine Arm.go (by assumption) ?_))
        refine callR_tree hG0 (has_33 bad v hbad) ?_
        simp only [amS, amL, tyS, amB, Nat.reduceLT, Nat.reduceEqDiff, Nat.reduceAdd, Nat.reduceMul, Nat.reduceSub, Nat.reduceLeDiff, reduceCtorEq, hb]
        repeat' (first | (refine awp_seq_k fun _ _ => ?_) | (refine awp_block ?_) | ((first | (refine awp_rgn ?_) | (refine awp_any (by kernel_rfl) (by kernel_rfl) ?_) | (refine awp_cond_k fun _ _ _ _ => ?_)) <;> simp only [amS, amL, tyS, amB, Nat.reduceLT, Nat.reduceEqDiff, Nat.reduceAdd, Nat.reduceMul, Nat.reduceSub, Nat.reduceLeDiff, reduceCtorEq, hb]) | (refine guard_split (fun hg => ?_) (fun hg => ?_) <;> simp only [hg, amS, amL, tyS, amB, Nat.reduceLT, Nat.reduceEqDiff, Nat.reduceAdd, Nat.reduceMul, Nat.reduceSub, Nat.reduceLeDiff, reduceCtorEq, hb]) | (refine awp_skip ?_; simp only [amS]) | (refine awp_exit ?_; simp only [amS, if_true, if_false, Nat.reduceEqDiff]) | (refine awp_ret ?_; try simp only [amS]) | (refine Cont.go (by assumption) ?_) | (refine Arm.go (by assumption) ?_))
        have hf30 := findGo_30 l v hl
        rw [hf] at hf30
        have hH : accH [] [] (cI (out ++ [v])) = [accRow [] (cI (out ++ [v]))] := by rw [cI_snoc]; exact accH_ne
        have hH2 : hset (accH [] [] (cI out)) 0 (accRow [] (cI (out ++ [v]))) = [accRow [] (cI (out ++ [v]))] := by rw [cI_snoc, accH_snoc0]; exact accH_ne
        have hwl := hN.todo_len
        rw [List.length_append] at hwl
        refine callR_tree hG0 hf30 ?_
        simp only [amS, amL, tyS, amB, Nat.reduceLT, Nat.reduceEqDiff, Nat.reduceAdd, Nat.reduceMul, Nat.reduceSub, Nat.reduceLeDiff, reduceCtorEq, hw, encVs, encV, encI_cI, hH2]
        by_cases hb0 : w.before = []
        · refine eff_none (sz := 1) (by' := 8) (new := []) (by kernel_rfl) (by simp) (by simp [srcA, hb0, cI]) (by simp) ?_
          simp only [amS, amL, tyS, amB, Nat.reduceLT, Nat.reduceEqDiff, Nat.reduceAdd, Nat.reduceMul, Nat.reduceSub, Nat.reduceLeDiff, reduceCtorEq, hH2]
          by_cases ht0 : tl = []
          · refine eff_none (sz := 1) (by' := 8) (new := []) (by kernel_rfl) (by simp) (by simp [srcA, ht0, cI]) (by simp) ?_
            simp only [amS, amL, tyS, amB, Nat.reduceLT, Nat.reduceEqDiff, Nat.reduceAdd, Nat.reduceMul, Nat.reduceSub, Nat.reduceLeDiff, reduceCtorEq]
            repeat' (first | (refine awp_seq_k fun _ _ => ?_) | (refine awp_block ?_) | ((first | (refine awp_rgn ?_) | (refine awp_any (by kernel_rfl) (by kernel_rfl) ?_) | (refine awp_cond_k fun _ _ _ _ => ?_)) <;> simp only [amS, amL, tyS, amB, Nat.reduceLT, Nat.reduceEqDiff, Nat.reduceAdd, Nat.reduceMul, Nat.reduceSub, Nat.reduceLeDiff, reduceCtorEq]) | (refine guard_split (fun hg => ?_) (fun hg => ?_) <;> simp only [hg, amS, amL, tyS, amB, Nat.reduceLT, Nat.reduceEqDiff, Nat.reduceAdd, Nat.reduceMul, Nat.reduceSub, Nat.reduceLeDiff, reduceCtorEq]) | (refine awp_skip ?_; simp only [amS]) | (refine awp_exit ?_; simp only [amS, if_true, if_false, Nat.reduceEqDiff]) | (refine awp_ret ?_; try simp only [amS]) | (refine Cont.go (by assumption) ?_) | (refine Arm.go (by assumption) ?_))
            refine AgainR.go hK2 ⟨(n', w.before ++ tl, out ++ [v]), by omega, hN⟩ (ref_freeze [] [(0, encVs l), (2, encI bad), (7, accV [] 0 1 (cI (out ++ [v]))), (8, .sl false (cI (w.before ++ tl)))] (accH [] [] (cI (out ++ [v]))) (by simp) ?_ ?_) (by simp)
            · refine ⟨.inl ?_, .inl ?_, .inl ?_, .inr ?_, trivial⟩
              · simp only [amS, amL, tyS, amB, Nat.reduceLT, Nat.reduceEqDiff, Nat.reduceAdd, Nat.reduceMul, Nat.reduceSub, Nat.reduceLeDiff, reduceCtorEq] <;> rfl
              · simp only [amS, amL, tyS, amB, Nat.reduceLT, Nat.reduceEqDiff, Nat.reduceAdd, Nat.reduceMul, Nat.reduceSub, Nat.reduceLeDiff, reduceCtorEq] <;> rfl
              · simp only [amS, amL, tyS, amB, Nat.reduceLT, Nat.reduceEqDiff, Nat.reduceAdd, Nat.reduceMul, Nat.reduceSub, Nat.reduceLeDiff, reduceCtorEq, cI_snoc] <;> rfl
              · simp only [amS, amL, tyS, amB, Nat.reduceLT, Nat.reduceEqDiff, Nat.reduceAdd, Nat.reduceMul, Nat.reduceSub, Nat.reduceLeDiff, reduceCtorEq]
                rw [hb0, ht0]
                exact .full (by simp [inE, cI])
            · rw [hH]
              simp only [amS, amL, tyS, amB, Nat.reduceLT, Nat.reduceEqDiff, Nat.reduceAdd, Nat.reduceMul, Nat.reduceSub, Nat.reduceLeDiff, reduceCtorEq, hH2]
              simp [FrzH, FrzRow]
          · refine eff_new (sz := 1) (by' := 8) (mm := tl.length) (new := (cI tl).flatten) (by kernel_rfl) (by simp only [amS, amL, tyS, amB, Nat.reduceLT, Nat.reduceEqDiff, Nat.reduceAdd, Nat.reduceMul, Nat.reduceSub, Nat.reduceLeDiff, reduceCtorEq, hH2] <;> exact accH_over) (by simp) (by rw [src_sl (cI_all tl), cI_len]) (by simpa using ht0) (by simp; omega) ?_
            simp only [amS, amL, tyS, amB, Nat.reduceLT, Nat.reduceEqDiff, Nat.reduceAdd, Nat.reduceMul, Nat.reduceSub, Nat.reduceLeDiff, reduceCtorEq, hH2]
            repeat' (first | (refine awp_seq_k fun _ _ => ?_) | (refine awp_block ?_) | ((first | (refine awp_rgn ?_) | (refine awp_any (by kernel_rfl) (by kernel_rfl) ?_) | (refine awp_cond_k fun _ _ _ _ => ?_)) <;> simp only [amS, amL, tyS, amB, Nat.reduceLT, Nat.reduceEqDiff, Nat.reduceAdd, Nat.reduceMul, Nat.reduceSub, Nat.reduceLeDiff, reduceCtorEq]) | (refine guard_split (fun hg => ?_) (fun hg => ?_) <;> simp only [hg, amS, amL, tyS, amB, Nat.reduceLT, Nat.reduceEqDiff, Nat.reduceAdd, Nat.reduceMul, Nat.reduceSub, Nat.reduceLeDiff, reduceCtorEq]) | (refine awp_skip ?_; simp only [amS]) | (refine awp_exit ?_; simp only [amS, if_true, if_false, Nat.reduceEqDiff]) | (refine awp_ret ?_; try simp only [amS]) | (refine Cont.go (by assumption) ?_) | (refine Arm.go (by assumption) ?_))
            refine AgainR.go hK2 ⟨(n', w.before ++ tl, out ++ [v]), by omega, hN⟩ ?_ (by simp)
            show Ref G0 _ 0 _ ⟨mkF [(0, encVs l), (2, encI bad), (7, accV [] 0 1 (cI (out ++ [v]))), (8, .sl false (cI (w.before ++ tl)))], accH [] [] (cI (out ++ [v]))⟩
            rw [hH]
            refine (ref_freeze [1] [(0, encVs l), (2, encI bad), (7, accV [] 0 1 (cI (out ++ [v]))), (8, .sl false (cI (w.before ++ tl)))] [accRow [] (cI (out ++ [v])), .dead] (by simp only [amS, amL, tyS, amB, Nat.reduceLT, Nat.reduceEqDiff, Nat.reduceAdd, Nat.reduceMul, Nat.reduceSub, Nat.reduceLeDiff, reduceCtorEq, hH2] <;> simp) ?_ ?_).trans (ref_gc (h := [accRow [] (cI (out ++ [v])), .dead]) 1 (by omega) hG0 ?_ ?_)
            · refine ⟨.inl ?_, .inl ?_, .inl ?_, .inr ?_, trivial⟩
              · simp only [amS, amL, tyS, amB, Nat.reduceLT, Nat.reduceEqDiff, Nat.reduceAdd, Nat.reduceMul, Nat.reduceSub, Nat.reduceLeDiff, reduceCtorEq] <;> rfl
              · simp only [amS, amL, tyS, amB, Nat.reduceLT, Nat.reduceEqDiff, Nat.reduceAdd, Nat.reduceMul, Nat.reduceSub, Nat.reduceLeDiff, reduceCtorEq] <;> rfl
              · simp only [amS, amL, tyS, amB, Nat.reduceLT, Nat.reduceEqDiff, Nat.reduceAdd, Nat.reduceMul, Nat.reduceSub, Nat.reduceLeDiff, reduceCtorEq, cI_snoc] <;> rfl
              · simp only [amS, amL, tyS, amB, Nat.reduceLT, Nat.reduceEqDiff, Nat.reduceAdd, Nat.reduceMul, Nat.reduceSub, Nat.reduceLeDiff, reduceCtorEq]
                refine .osl (cs := (cI tl).flatten) (by simp) ?_ (by rw [cI_len, hb0]; simp) (sz1 _) ?_ (tree_ints _)
                · simp only [amS, amL, tyS, amB, Nat.reduceLT, Nat.reduceEqDiff, Nat.reduceAdd, Nat.reduceMul, Nat.reduceSub, Nat.reduceLeDiff, reduceCtorEq, rowCells, hH2] <;> rfl
                · rw [List.drop_zero, List.take_of_length_le (by simp only [List.length_append, cI_flat_len, Nat.mul_one, Nat.zero_add, Nat.le_refl])]
                  rw [hb0, List.nil_append]
            · simp only [amS, amL, tyS, amB, Nat.reduceLT, Nat.reduceEqDiff, Nat.reduceAdd, Nat.reduceMul, Nat.reduceSub, Nat.reduceLeDiff, reduceCtorEq, hH2]
              simp [FrzH, FrzRow, accRow]
            · intro p hp
              simp only [List.mem_cons, List.not_mem_nil, or_false] at hp
              rcases hp with rfl | rfl | rfl | rfl
              · exact inR_mono (p := noRef) (fun r hr => by cases hr) (tree_encVs l)
              · exact inR_mono (p := noRef) (fun r hr => by cases hr) (tree_encI bad)
              · exact inR_accV (by simp) (by simp [inE])
              · exact inR_mono (p := noRef) (fun r hr => by cases hr) (tree_encI _)
            · simp only [List.take_succ_cons, List.take_zero, List.all_cons, List.all_nil, Bool.and_true, accRow, rowIn]
              exact inL_mono (p := noRef) (fun r hr => by cases hr) (inL_flat (tree_n (out ++ [v])))
        · refine eff_new (sz := 1) (by' := 8) (mm := w.before.length) (new := (cI w.before).flatten) (by kernel_rfl) (by simp only [amS, amL, tyS, amB, Nat.reduceLT, Nat.reduceEqDiff, Nat.reduceAdd, Nat.reduceMul, Nat.reduceSub, Nat.reduceLeDiff, reduceCtorEq, hH2] <;> exact accH_over) (by simp) (by rw [src_sl (cI_all w.before), cI_len]) (by simpa using hb0) (by simp; omega) ?_
          simp only [amS, amL, tyS, amB, Nat.reduceLT, Nat.reduceEqDiff, Nat.reduceAdd, Nat.reduceMul, Nat.reduceSub, Nat.reduceLeDiff, reduceCtorEq, hH2]
          refine eff_own (sz := 1) (by' := 8) (mm := tl.length) (new := (cI tl).flatten) (cs := (cI w.before).flatten) (by kernel_rfl) (by simp only [amS, amL, tyS, amB, Nat.reduceLT, Nat.reduceEqDiff, Nat.reduceAdd, Nat.reduceMul, Nat.reduceSub, Nat.reduceLeDiff, reduceCtorEq, hH2]; try simp) (by rw [cI_flat_len]; simp) (by rw [src_sl (cI_all tl), cI_len]) (by simp; omega) ?_
          simp only [amS, amL, tyS, amB, Nat.reduceLT, Nat.reduceEqDiff, Nat.reduceAdd, Nat.reduceMul, Nat.reduceSub, Nat.reduceLeDiff, reduceCtorEq, hH2]
          repeat' (first | (refine awp_seq_k fun _ _ => ?_) | (refine awp_block ?_) | ((first | (refine awp_rgn ?_) | (refine awp_any (by kernel_rfl) (by kernel_rfl) ?_) | (refine awp_cond_k fun _ _ _ _ => ?_)) <;> simp only [amS, amL, tyS, amB, Nat.reduceLT, Nat.reduceEqDiff, Nat.reduceAdd, Nat.reduceMul, Nat.reduceSub, Nat.reduceLeDiff, reduceCtorEq]) | (refine guard_split (fun hg => ?_) (fun hg => ?_) <;> simp only [hg, amS, amL, tyS, amB, Nat.reduceLT, Nat.reduceEqDiff, Nat.reduceAdd, Nat.reduceMul, Nat.reduceSub, Nat.reduceLeDiff, reduceCtorEq]) | (refine awp_skip ?_; simp only [amS]) | (refine awp_exit ?_; simp only [amS, if_true, if_false, Nat.reduceEqDiff]) | (refine awp_ret ?_; try simp only [amS]) | (refine Cont.go (by assumption) ?_) | (refine Arm.go (by assumption) ?_))
          refine AgainR.go hK2 ⟨(n', w.before ++ tl, out ++ [v]), by omega, hN⟩ ?_ (by simp)
          show Ref G0 _ 0 _ ⟨mkF [(0, encVs l), (2, encI bad), (7, accV [] 0 1 (cI (out ++ [v]))), (8, .sl false (cI (w.before ++ tl)))], accH [] [] (cI (out ++ [v]))⟩
          rw [hH]
          refine (ref_freeze [1] [(0, encVs l), (2, encI bad), (7, accV [] 0 1 (cI (out ++ [v]))), (8, .sl false (cI (w.before ++ tl)))] [accRow [] (cI (out ++ [v])), .dead] (by simp only [amS, amL, tyS, amB, Nat.reduceLT, Nat.reduceEqDiff, Nat.reduceAdd, Nat.reduceMul, Nat.reduceSub, Nat.reduceLeDiff, reduceCtorEq, hH2] <;> simp) ?_ ?_).trans (ref_gc (h := [accRow [] (cI (out ++ [v])), .dead]) 1 (by omega) hG0 ?_ ?_)
          · refine ⟨.inl ?_, .inl ?_, .inl ?_, .inr ?_, trivial⟩
            · simp only [amS, amL, tyS, amB, Nat.reduceLT, Nat.reduceEqDiff, Nat.reduceAdd, Nat.reduceMul, Nat.reduceSub, Nat.reduceLeDiff, reduceCtorEq] <;> rfl
            · simp only [amS, amL, tyS, amB, Nat.reduceLT, Nat.reduceEqDiff, Nat.reduceAdd, Nat.reduceMul, Nat.reduceSub, Nat.reduceLeDiff, reduceCtorEq] <;> rfl
            · simp only [amS, amL, tyS, amB, Nat.reduceLT, Nat.reduceEqDiff, Nat.reduceAdd, Nat.reduceMul, Nat.reduceSub, Nat.reduceLeDiff, reduceCtorEq, cI_snoc] <;> rfl
            · simp only [amS, amL, tyS, amB, Nat.reduceLT, Nat.reduceEqDiff, Nat.reduceAdd, Nat.reduceMul, Nat.reduceSub, Nat.reduceLeDiff, reduceCtorEq]
              refine .osl (cs := (cI w.before).flatten ++ (cI tl).flatten) (by simp) ?_ (by rw [cI_len, List.length_append]) (sz1 _) ?_ (tree_ints _)
              · simp only [amS, amL, tyS, amB, Nat.reduceLT, Nat.reduceEqDiff, Nat.reduceAdd, Nat.reduceMul, Nat.reduceSub, Nat.reduceLeDiff, reduceCtorEq, rowCells, hH2] <;> rfl
              · rw [List.drop_zero, List.take_of_length_le (by simp only [List.length_append, cI_flat_len, Nat.mul_one, Nat.zero_add, Nat.le_refl])]
                rw [cI_app, List.flatten_append]
          · simp only [amS, amL, tyS, amB, Nat.reduceLT, Nat.reduceEqDiff, Nat.reduceAdd, Nat.reduceMul, Nat.reduceSub, Nat.reduceLeDiff, reduceCtorEq, hH2]
            simp [FrzH, FrzRow, accRow]
          · intro p hp
            simp only [List.mem_cons, List.not_mem_nil, or_false] at hp
            rcases hp with rfl | rfl | rfl | rfl
            · exact inR_mono (p := noRef) (fun r hr => by cases hr) (tree_encVs l)
            · exact inR_mono (p := noRef) (fun r hr => by cases hr) (tree_encI bad)
            · exact inR_accV (by simp) (by simp [inE])
            · exact inR_mono (p := noRef) (fun r hr => by cases hr) (tree_encI _)
          · simp only [List.take_succ_cons, List.take_zero, List.all_cons, List.all_nil, Bool.and_true, accRow, rowIn]
            exact inL_mono (p := noRef) (fun r hr => by cases hr) (inL_flat (tree_n (out ++ [v])))
      · simp at h

end Go.Proofs.Ytgenkkejlggmnaa
