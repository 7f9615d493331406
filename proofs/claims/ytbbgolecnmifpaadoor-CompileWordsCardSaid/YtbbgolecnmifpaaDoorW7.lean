import Derived.Test.YtbbgolecnmifpaaDoorW6
set_option linter.unusedVariables false
set_option linter.unusedSimpArgs false
namespace Go.Proofs.YtbbgolecnmifpaaDoor
open Go.AM
set_option maxRecDepth 100000
noncomputable def ifChk (n kd x y : Int) : Bool := okB (callX Tryd.prog G0 60 [(43, [.agg (meV n kd x y 1)], .agg (foldV n kd x y 1)), (43, [.agg (mblkO false x)], .agg (mblkO true x)), (43, [.agg mblkS], .agg mblkS)] [] 60 43 [.agg (mifV n kd x y)] []) (.agg (chosenM n x y))
theorem if_10_m8 : (words.all fun y => ifChk 10 4 (-8) y) = true := by kernel_rfl
theorem if_10_m7 : (words.all fun y => ifChk 10 4 (-7) y) = true := by kernel_rfl
theorem if_10_m6 : (words.all fun y => ifChk 10 4 (-6) y) = true := by kernel_rfl
theorem if_10_m5 : (words.all fun y => ifChk 10 4 (-5) y) = true := by kernel_rfl
theorem if_10_m4 : (words.all fun y => ifChk 10 4 (-4) y) = true := by kernel_rfl
theorem if_10_m3 : (words.all fun y => ifChk 10 4 (-3) y) = true := by kernel_rfl
theorem if_10_m2 : (words.all fun y => ifChk 10 4 (-2) y) = true := by kernel_rfl
theorem if_10_m1 : (words.all fun y => ifChk 10 4 (-1) y) = true := by kernel_rfl
theorem if_10_0 : (words.all fun y => ifChk 10 4 (0) y) = true := by kernel_rfl
theorem if_10_1 : (words.all fun y => ifChk 10 4 (1) y) = true := by kernel_rfl
theorem if_10_2 : (words.all fun y => ifChk 10 4 (2) y) = true := by kernel_rfl
theorem if_10_3 : (words.all fun y => ifChk 10 4 (3) y) = true := by kernel_rfl
theorem if_10_4 : (words.all fun y => ifChk 10 4 (4) y) = true := by kernel_rfl
theorem if_10_5 : (words.all fun y => ifChk 10 4 (5) y) = true := by kernel_rfl
theorem if_10_6 : (words.all fun y => ifChk 10 4 (6) y) = true := by kernel_rfl
theorem if_10_7 : (words.all fun y => ifChk 10 4 (7) y) = true := by kernel_rfl
theorem if_11_m8 : (words.all fun y => ifChk 11 4 (-8) y) = true := by kernel_rfl
theorem if_11_m7 : (words.all fun y => ifChk 11 4 (-7) y) = true := by kernel_rfl
theorem if_11_m6 : (words.all fun y => ifChk 11 4 (-6) y) = true := by kernel_rfl
theorem if_11_m5 : (words.all fun y => ifChk 11 4 (-5) y) = true := by kernel_rfl
theorem if_11_m4 : (words.all fun y => ifChk 11 4 (-4) y) = true := by kernel_rfl
theorem if_11_m3 : (words.all fun y => ifChk 11 4 (-3) y) = true := by kernel_rfl
theorem if_11_m2 : (words.all fun y => ifChk 11 4 (-2) y) = true := by kernel_rfl
theorem if_11_m1 : (words.all fun y => ifChk 11 4 (-1) y) = true := by kernel_rfl
theorem if_11_0 : (words.all fun y => ifChk 11 4 (0) y) = true := by kernel_rfl
theorem if_11_1 : (words.all fun y => ifChk 11 4 (1) y) = true := by kernel_rfl
theorem if_11_2 : (words.all fun y => ifChk 11 4 (2) y) = true := by kernel_rfl
theorem if_11_3 : (words.all fun y => ifChk 11 4 (3) y) = true := by kernel_rfl
theorem if_11_4 : (words.all fun y => ifChk 11 4 (4) y) = true := by kernel_rfl
theorem if_11_5 : (words.all fun y => ifChk 11 4 (5) y) = true := by kernel_rfl
theorem if_11_6 : (words.all fun y => ifChk 11 4 (6) y) = true := by kernel_rfl
theorem if_11_7 : (words.all fun y => ifChk 11 4 (7) y) = true := by kernel_rfl
theorem if_12 : (truths.all fun x => truths.all fun y => ifChk 12 5 x y) = true := by kernel_rfl
theorem if_13 : (truths.all fun x => truths.all fun y => ifChk 13 5 x y) = true := by kernel_rfl
theorem ifChk_ok {n kd x y : Int} (h : Okay n kd x y) (h10 : 10 ≤ n) : ifChk n kd x y = true := by
  rcases h.kd with ⟨rfl, n1, n2, hx, hy⟩ | ⟨rfl, hn, hx, hy⟩
  · have hn : n = 10 ∨ n = 11 := by have := h.hi; omega
    simp only [words, List.mem_cons, List.not_mem_nil, or_false] at hx
    rcases hn with rfl | rfl
    · rcases hx with rfl | rfl | rfl | rfl | rfl | rfl | rfl | rfl | rfl | rfl | rfl | rfl | rfl | rfl | rfl | rfl
      · exact List.all_eq_true.1 if_10_m8 y hy
      · exact List.all_eq_true.1 if_10_m7 y hy
      · exact List.all_eq_true.1 if_10_m6 y hy
      · exact List.all_eq_true.1 if_10_m5 y hy
      · exact List.all_eq_true.1 if_10_m4 y hy
      · exact List.all_eq_true.1 if_10_m3 y hy
      · exact List.all_eq_true.1 if_10_m2 y hy
      · exact List.all_eq_true.1 if_10_m1 y hy
      · exact List.all_eq_true.1 if_10_0 y hy
      · exact List.all_eq_true.1 if_10_1 y hy
      · exact List.all_eq_true.1 if_10_2 y hy
      · exact List.all_eq_true.1 if_10_3 y hy
      · exact List.all_eq_true.1 if_10_4 y hy
      · exact List.all_eq_true.1 if_10_5 y hy
      · exact List.all_eq_true.1 if_10_6 y hy
      · exact List.all_eq_true.1 if_10_7 y hy
    · rcases hx with rfl | rfl | rfl | rfl | rfl | rfl | rfl | rfl | rfl | rfl | rfl | rfl | rfl | rfl | rfl | rfl
      · exact List.all_eq_true.1 if_11_m8 y hy
      · exact List.all_eq_true.1 if_11_m7 y hy
      · exact List.all_eq_true.1 if_11_m6 y hy
      · exact List.all_eq_true.1 if_11_m5 y hy
      · exact List.all_eq_true.1 if_11_m4 y hy
      · exact List.all_eq_true.1 if_11_m3 y hy
      · exact List.all_eq_true.1 if_11_m2 y hy
      · exact List.all_eq_true.1 if_11_m1 y hy
      · exact List.all_eq_true.1 if_11_0 y hy
      · exact List.all_eq_true.1 if_11_1 y hy
      · exact List.all_eq_true.1 if_11_2 y hy
      · exact List.all_eq_true.1 if_11_3 y hy
      · exact List.all_eq_true.1 if_11_4 y hy
      · exact List.all_eq_true.1 if_11_5 y hy
      · exact List.all_eq_true.1 if_11_6 y hy
      · exact List.all_eq_true.1 if_11_7 y hy
  · rcases hn with rfl | rfl
    · exact List.all_eq_true.1 (List.all_eq_true.1 if_12 x hx) y hy
    · exact List.all_eq_true.1 (List.all_eq_true.1 if_13 x hx) y hy
theorem fold_if {n kd x y : Int} (h : Okay n kd x y) (h10 : 10 ≤ n) : Pure Tryd.prog G0 43 [.agg (mifV n kd x y)] (.agg (chosenM n x y)) :=
  pure_okB 60 60 _ (tbl_cons (fold_43 1 h) (tbl_cons (fold_O h.word) (tbl_cons fold_S no_table))) (by simpa only [inR] using tree_chosenM n x y) (ifChk_ok h h10)
theorem Fold_if {n kd x y : Int} (h : Okay n kd x y) (h10 : 10 ≤ n) : Pure Tryd.prog G0 17 [.agg (ifV n kd x y)] (.agg (chosenV n x y)) :=
  Fold_17 (mark_if n kd x y) (fold_if h h10) (plain_chosen n x y) rfl rfl (by unfold chosenV; split <;> rfl) rfl (tree_chosenV _ _ _)

end Go.Proofs.YtbbgolecnmifpaaDoor
