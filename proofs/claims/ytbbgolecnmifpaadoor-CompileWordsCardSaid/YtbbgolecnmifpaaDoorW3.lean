import Derived.Test.YtbbgolecnmifpaaDoorW1
set_option linter.unusedVariables false
set_option linter.unusedSimpArgs false
namespace Go.Proofs.YtbbgolecnmifpaaDoor
open Go.AM
set_option maxRecDepth 100000

/-- The keys of the kids are constants of the kind that the operation asks. -/
noncomputable def cfChk (kd x y i : Int) : Bool := okB (callX Tryd.prog G0 60 [] [] 60 94 [.sl false [mkV kd x (i + 1), mkV kd y (i + 2)], .fn (.func 95) [] [.imm [.int .i64 kd]]] []) (.bool false)
theorem cf_4_m8 (i : Int) : (words.all fun y => cfChk 4 (-8) y i) = true := by kernel_rfl
theorem cf_4_m7 (i : Int) : (words.all fun y => cfChk 4 (-7) y i) = true := by kernel_rfl
theorem cf_4_m6 (i : Int) : (words.all fun y => cfChk 4 (-6) y i) = true := by kernel_rfl
theorem cf_4_m5 (i : Int) : (words.all fun y => cfChk 4 (-5) y i) = true := by kernel_rfl
theorem cf_4_m4 (i : Int) : (words.all fun y => cfChk 4 (-4) y i) = true := by kernel_rfl
theorem cf_4_m3 (i : Int) : (words.all fun y => cfChk 4 (-3) y i) = true := by kernel_rfl
theorem cf_4_m2 (i : Int) : (words.all fun y => cfChk 4 (-2) y i) = true := by kernel_rfl
theorem cf_4_m1 (i : Int) : (words.all fun y => cfChk 4 (-1) y i) = true := by kernel_rfl
theorem cf_4_0 (i : Int) : (words.all fun y => cfChk 4 (0) y i) = true := by kernel_rfl
theorem cf_4_1 (i : Int) : (words.all fun y => cfChk 4 (1) y i) = true := by kernel_rfl
theorem cf_4_2 (i : Int) : (words.all fun y => cfChk 4 (2) y i) = true := by kernel_rfl
theorem cf_4_3 (i : Int) : (words.all fun y => cfChk 4 (3) y i) = true := by kernel_rfl
theorem cf_4_4 (i : Int) : (words.all fun y => cfChk 4 (4) y i) = true := by kernel_rfl
theorem cf_4_5 (i : Int) : (words.all fun y => cfChk 4 (5) y i) = true := by kernel_rfl
theorem cf_4_6 (i : Int) : (words.all fun y => cfChk 4 (6) y i) = true := by kernel_rfl
theorem cf_4_7 (i : Int) : (words.all fun y => cfChk 4 (7) y i) = true := by kernel_rfl
theorem cf_4 (x : Int) (hx : x ∈ words) (y : Int) (hy : y ∈ words) (i : Int) : cfChk 4 x y i = true := by
  simp only [words, List.mem_cons, List.not_mem_nil, or_false] at hx
  rcases hx with rfl | rfl | rfl | rfl | rfl | rfl | rfl | rfl | rfl | rfl | rfl | rfl | rfl | rfl | rfl | rfl
  · exact List.all_eq_true.1 (cf_4_m8 i) y hy
  · exact List.all_eq_true.1 (cf_4_m7 i) y hy
  · exact List.all_eq_true.1 (cf_4_m6 i) y hy
  · exact List.all_eq_true.1 (cf_4_m5 i) y hy
  · exact List.all_eq_true.1 (cf_4_m4 i) y hy
  · exact List.all_eq_true.1 (cf_4_m3 i) y hy
  · exact List.all_eq_true.1 (cf_4_m2 i) y hy
  · exact List.all_eq_true.1 (cf_4_m1 i) y hy
  · exact List.all_eq_true.1 (cf_4_0 i) y hy
  · exact List.all_eq_true.1 (cf_4_1 i) y hy
  · exact List.all_eq_true.1 (cf_4_2 i) y hy
  · exact List.all_eq_true.1 (cf_4_3 i) y hy
  · exact List.all_eq_true.1 (cf_4_4 i) y hy
  · exact List.all_eq_true.1 (cf_4_5 i) y hy
  · exact List.all_eq_true.1 (cf_4_6 i) y hy
  · exact List.all_eq_true.1 (cf_4_7 i) y hy

theorem cf_5 : ∀ i, (truths.all fun x => truths.all fun y => cfChk 5 x y i) = true := by intro i; kernel_rfl
theorem cf_ok {kd x y i : Int} (h : (kd = 4 ∧ x ∈ words ∧ y ∈ words) ∨ (kd = 5 ∧ x ∈ truths ∧ y ∈ truths)) : Pure Tryd.prog G0 94 [.sl false [mkV kd x (i + 1), mkV kd y (i + 2)], .fn (.func 95) [] [.imm [.int .i64 kd]]] (.bool false) := by
  rcases h with ⟨rfl, hx, hy⟩ | ⟨rfl, hx, hy⟩
  · exact pure_okB 60 60 [] no_table rfl (cf_4 x hx y hy i)
  · exact pure_okB 60 60 [] no_table rfl (List.all_eq_true.1 (List.all_eq_true.1 (cf_5 i) x hx) y hy)

end Go.Proofs.YtbbgolecnmifpaaDoor
