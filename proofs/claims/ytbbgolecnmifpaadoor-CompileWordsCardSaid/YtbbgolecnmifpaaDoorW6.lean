import Derived.Test.YtbbgolecnmifpaaDoorW5
set_option linter.unusedVariables false
set_option linter.unusedSimpArgs false
namespace Go.Proofs.YtbbgolecnmifpaaDoor
open Go.AM
set_option maxRecDepth 100000

def eF (n k x y : Int) : List AV := [.int .i64 9, .int .i64 n, .int .i64 0, .sl false [ndV k x, ndV k y]]
def blkO (f : Bool) (x : Int) : List AV := [.int .i64 13, .int .i64 0, .int .i64 0, .sl f [[.int .i64 24, .int .i64 0, .int .i64 0, .sl f [ndV 4 x]]]]
def blkS (f : Bool) : List AV := [.int .i64 13, .int .i64 0, .int .i64 0, .sl f [ndV 25 0]]
def ifV (n k x y : Int) : List AV := [.int .i64 17, .int .i64 0, .int .i64 0, .sl false [eV n k x y, blkO true x, blkS true]]
def mblkO (f : Bool) (x : Int) : List AV := [.int .i64 13, .int .i64 0, .int .i64 0, .int .i64 4, .bool false, .sl false [[.int .i64 24, .int .i64 0, .int .i64 0, .int .i64 5, .bool false, .sl f [mkV 4 x 6]]]]
def mblkS : List AV := [.int .i64 13, .int .i64 0, .int .i64 0, .int .i64 7, .bool false, .sl false [mkV 25 0 8]]
def mifV (n k x y : Int) : List AV := [.int .i64 17, .int .i64 0, .int .i64 0, .int .i64 0, .bool false, .sl false [meV n k x y 1, mblkO false x, mblkS]]
def chosenM (n x y : Int) : List AV := if opV n x y = 1 then mblkO true x else mblkS
def chosenV (n x y : Int) : List AV := if opV n x y = 1 then blkO false x else blkS false
def plainV (n k x y : Int) : List AV := if opC n y = 0 then ndV (if 10 ≤ n then 5 else 4) (opV n x y) else eF n k x y

theorem num_33 (x : Int) : Pure Tryd.prog G0 33 [.int .i64 x] (.agg (ndV 4 x)) := pure_of_call 60 60 [] [] no_table hG0 (by kernel_rfl) rfl (by kernel_rfl)
theorem bin_30 (n k x y : Int) : Pure Tryd.prog G0 30 [.int .i64 n, .agg (ndV k x), .agg (ndV k y)] (.agg (eV n k x y)) := pure_of_call 60 60 [] [] no_table hG0 (by kernel_rfl) rfl (by kernel_rfl)
theorem mark_e (n k x y : Int) : Pure Tryd.prog G0 42 [.agg (eV n k x y), .int .i64 0] (.tup [.agg (meV n k x y 0), .int .i64 3]) := pure_of_call 60 60 [] [] no_table hG0 (by kernel_rfl) rfl (by kernel_rfl)
theorem mark_if (n k x y : Int) : Pure Tryd.prog G0 42 [.agg (ifV n k x y), .int .i64 0] (.tup [.agg (mifV n k x y), .int .i64 9]) := pure_of_call 60 60 [] [] no_table hG0 (by kernel_rfl) rfl (by kernel_rfl)
theorem plain_leaf (k x i : Int) : Pure Tryd.prog G0 44 [.agg (mkV k x i)] (.agg (ndV k x)) := pure_of_call 60 60 [] [] no_table hG0 (by kernel_rfl) rfl (by kernel_rfl)
theorem plain_e (n k x y i : Int) : Pure Tryd.prog G0 44 [.agg (meV n k x y i)] (.agg (eF n k x y)) := pure_of_call 60 60 [] [] no_table hG0 (by kernel_rfl) rfl (by kernel_rfl)
theorem plain_O (x : Int) : Pure Tryd.prog G0 44 [.agg (mblkO true x)] (.agg (blkO false x)) := pure_of_call 60 60 [] [] no_table hG0 (by kernel_rfl) rfl (by kernel_rfl)
theorem plain_S : Pure Tryd.prog G0 44 [.agg mblkS] (.agg (blkS false)) := pure_of_call 60 60 [] [] no_table hG0 (by kernel_rfl) rfl (by kernel_rfl)
theorem plain_fold (n k x y i : Int) : Pure Tryd.prog G0 44 [.agg (foldV n k x y i)] (.agg (plainV n k x y)) := by
  unfold foldV plainV
  split
  · exact plain_leaf _ _ _
  · exact plain_e _ _ _ _ _
theorem plain_chosen (n x y : Int) : Pure Tryd.prog G0 44 [.agg (chosenM n x y)] (.agg (chosenV n x y)) := by
  unfold chosenM chosenV
  split
  · exact plain_O _
  · exact plain_S
theorem fold_O1 : (words.all fun x => okB (callX Tryd.prog G0 60 [] [] 60 43 [.agg (mblkO false x)] []) (.agg (mblkO true x))) = true := by kernel_rfl
theorem fold_O {x : Int} (hx : x ∈ words) : Pure Tryd.prog G0 43 [.agg (mblkO false x)] (.agg (mblkO true x)) := pure_okB 60 60 [] no_table rfl (List.all_eq_true.1 fold_O1 x hx)
theorem Okay.word {n kd x y : Int} (h : Okay n kd x y) : x ∈ words := by
  rcases h.kd with ⟨_, _, _, hx, _⟩ | ⟨_, _, hx, _⟩
  · exact hx
  · simp only [truths, words, List.mem_cons, List.not_mem_nil, or_false] at hx ⊢; omega
theorem fold_S : Pure Tryd.prog G0 43 [.agg mblkS] (.agg mblkS) := pure_of_call 60 60 [] [] no_table hG0 (by kernel_rfl) rfl (by kernel_rfl)
theorem tree_plainV (n kd x y : Int) : inL noRef (plainV n kd x y) = true := by unfold plainV; split <;> rfl
theorem tree_chosenM (n x y : Int) : inL noRef (chosenM n x y) = true := by unfold chosenM; split <;> rfl
theorem tree_chosenV (n x y : Int) : inL noRef (chosenV n x y) = true := by unfold chosenV; split <;> rfl

/-- Fold, of what is marked, folded and made plain. -/
theorem Fold_17 {t m f p : List AV} {z : Int} (h1 : Pure Tryd.prog G0 42 [.agg t, .int .i64 0] (.tup [.agg m, .int .i64 z])) (h2 : Pure Tryd.prog G0 43 [.agg m] (.agg f)) (h3 : Pure Tryd.prog G0 44 [.agg f] (.agg p)) (l1 : t.length = 4) (l2 : m.length = 6) (l4 : p.length = 4)
    (t1 : inL noRef t = true) (t4 : inL noRef p = true) : Pure Tryd.prog G0 17 [.agg t] (.agg p) := by
  match t, l1 with
  | [t0, t1', t2, t3], _ =>
  match m, l2 with
  | [m0, m1, m2, m3, m4, m5], _ =>
  match p, l4 with
  | [p0, p1, p2, p3], _ =>
  refine pure_of_body hG0 Tryd.func17 rfl (by kernel_rfl) (by simp [Tryd.ntmps17]) (by simp only [inL, inR, Bool.and_true] at t1 ⊢; exact t1) (by simpa only [inR] using t4) ?_
  simp only [Tryd.ntmps17, enterF, Nat.reduceAdd]
  repeat' (first | (refine awp_seq_k fun _ _ => ?_) | (refine awp_block ?_) | ((first | (refine awp_rgn ?_) | (refine awp_any (by kernel_rfl) (by kernel_rfl) ?_) | (refine awp_cond_k fun _ _ _ _ => ?_)) <;> simp only [amS, amL, tyS, amB, Nat.reduceLT, Nat.reduceEqDiff, Nat.reduceAdd, Nat.reduceMul, Nat.reduceSub, Nat.reduceLeDiff, reduceCtorEq, Int.reduceToNat, Int.reduceLE, Int.reduceLT, Int.le_refl, Int.toNat_natCast]) | (refine guard_split (fun hg => ?_) (fun hg => ?_) <;> simp only [hg, amS, amL, tyS, amB, Nat.reduceLT, Nat.reduceEqDiff, Nat.reduceAdd, Nat.reduceMul, Nat.reduceSub, Nat.reduceLeDiff, reduceCtorEq, Int.reduceToNat, Int.reduceLE, Int.reduceLT, Int.le_refl, Int.toNat_natCast]) | (refine awp_skip ?_; simp only [amS]) | (refine awp_exit ?_; simp only [amS, if_true, if_false, Nat.reduceEqDiff]) | (refine awp_ret ?_; try simp only [amS]) | (refine Cont.go (by assumption) ?_) | (refine Arm.go (by assumption) ?_))
  refine callR_tree hG0 h1 ?_
  simp only [amS, amL, tyS, amB, Nat.reduceLT, Nat.reduceEqDiff, Nat.reduceAdd, Nat.reduceMul, Nat.reduceSub, Nat.reduceLeDiff, reduceCtorEq, Int.reduceToNat, Int.reduceLE, Int.reduceLT, Int.le_refl, Int.toNat_natCast]
  repeat' (first | (refine awp_seq_k fun _ _ => ?_) | (refine awp_block ?_) | ((first | (refine awp_rgn ?_) | (refine awp_any (by kernel_rfl) (by kernel_rfl) ?_) | (refine awp_cond_k fun _ _ _ _ => ?_)) <;> simp only [amS, amL, tyS, amB, Nat.reduceLT, Nat.reduceEqDiff, Nat.reduceAdd, Nat.reduceMul, Nat.reduceSub, Nat.reduceLeDiff, reduceCtorEq, Int.reduceToNat, Int.reduceLE, Int.reduceLT, Int.le_refl, Int.toNat_natCast]) | (refine guard_split (fun hg => ?_) (fun hg => ?_) <;> simp only [hg, amS, amL, tyS, amB, Nat.reduceLT, Nat.reduceEqDiff, Nat.reduceAdd, Nat.reduceMul, Nat.reduceSub, Nat.reduceLeDiff, reduceCtorEq, Int.reduceToNat, Int.reduceLE, Int.reduceLT, Int.le_refl, Int.toNat_natCast]) | (refine awp_skip ?_; simp only [amS]) | (refine awp_exit ?_; simp only [amS, if_true, if_false, Nat.reduceEqDiff]) | (refine awp_ret ?_; try simp only [amS]) | (refine Cont.go (by assumption) ?_) | (refine Arm.go (by assumption) ?_))
  refine callR_tree hG0 h2 ?_
  simp only [amS, amL, tyS, amB, Nat.reduceLT, Nat.reduceEqDiff, Nat.reduceAdd, Nat.reduceMul, Nat.reduceSub, Nat.reduceLeDiff, reduceCtorEq, Int.reduceToNat, Int.reduceLE, Int.reduceLT, Int.le_refl, Int.toNat_natCast]
  refine callR_tree hG0 h3 ?_
  simp only [amS, amL, tyS, amB, Nat.reduceLT, Nat.reduceEqDiff, Nat.reduceAdd, Nat.reduceMul, Nat.reduceSub, Nat.reduceLeDiff, reduceCtorEq, Int.reduceToNat, Int.reduceLE, Int.reduceLT, Int.le_refl, Int.toNat_natCast]
  repeat' (first | (refine awp_seq_k fun _ _ => ?_) | (refine awp_block ?_) | ((first | (refine awp_rgn ?_) | (refine awp_any (by kernel_rfl) (by kernel_rfl) ?_) | (refine awp_cond_k fun _ _ _ _ => ?_)) <;> simp only [amS, amL, tyS, amB, Nat.reduceLT, Nat.reduceEqDiff, Nat.reduceAdd, Nat.reduceMul, Nat.reduceSub, Nat.reduceLeDiff, reduceCtorEq, Int.reduceToNat, Int.reduceLE, Int.reduceLT, Int.le_refl, Int.toNat_natCast]) | (refine guard_split (fun hg => ?_) (fun hg => ?_) <;> simp only [hg, amS, amL, tyS, amB, Nat.reduceLT, Nat.reduceEqDiff, Nat.reduceAdd, Nat.reduceMul, Nat.reduceSub, Nat.reduceLeDiff, reduceCtorEq, Int.reduceToNat, Int.reduceLE, Int.reduceLT, Int.le_refl, Int.toNat_natCast]) | (refine awp_skip ?_; simp only [amS]) | (refine awp_exit ?_; simp only [amS, if_true, if_false, Nat.reduceEqDiff]) | (refine awp_ret ?_; try simp only [amS]) | (refine Cont.go (by assumption) ?_) | (refine Arm.go (by assumption) ?_))
  refine body_retC rfl (by simp only [amS, amL, tyS, amB, Nat.reduceLT, Nat.reduceEqDiff, Nat.reduceAdd, Nat.reduceMul, Nat.reduceSub, Nat.reduceLeDiff, reduceCtorEq, Int.reduceToNat, Int.reduceLE, Int.reduceLT, Int.le_refl, Int.toNat_natCast] <;> rfl) ?_
  rfl
theorem Fold_e {n kd x y : Int} (h : Okay n kd x y) : Pure Tryd.prog G0 17 [.agg (eV n kd x y)] (.agg (plainV n kd x y)) :=
  Fold_17 (mark_e n kd x y) (fold_43 0 h) (plain_fold n kd x y 0) rfl rfl (by unfold plainV; split <;> rfl) rfl (tree_plainV _ _ _ _)

end Go.Proofs.YtbbgolecnmifpaaDoor
