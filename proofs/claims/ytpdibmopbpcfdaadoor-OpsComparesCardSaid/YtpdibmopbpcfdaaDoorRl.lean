import Derived.Test.YtpdibmopbpcfdaaDoorRs1
set_option maxRecDepth 100000
set_option linter.unusedVariables false
namespace Go.Proofs.YtpdibmopbpcfdaaDoor
open Go.AM
theorem sitesCk : Pure Tryd.prog G0 12 sitesCk_A sitesCk_R := by
  have hm : Tryd.prog.follows .mixedOrders = true := by kernel_rfl
  have hy := callY_ok (N := 60) (K := []) sitesCk_t hG0 hm 40
  obtain ⟨L, e1, hL⟩ := isRes_ok sitesCk_e
  have e0 := loopC_eq sitesCk_c
  have e2 := e1
  rw [e0] at e2
  have hb : Tryd.f12.body = some (codeOf Tryd.f12) := by kernel_rfl
  refine pure_of_bodyL hG0 Tryd.func12 hb (by kernel_rfl) (of_decide_eq_true (by kernel_rfl)) (by kernel_rfl) (by kernel_rfl) fun b => @awp_flat ⟨none, some b⟩ _ _ _ _ _ _ _ ?_
  rw [← codeL_eq hb]
  have ht : true = true → (⟨none, some b⟩ : Rnd).round = none ∧ ∃ b', (⟨none, some b⟩ : Rnd).base = some b' := fun _ => ⟨rfl, b, rfl⟩
  refine @awpL_ck _ _ _ _ ⟨none, some b⟩ true _ _ hG0 hm ht hy.1 hy.2.1 _ _ _ _ sitesCk_l0 sitesCk_h0 sitesCk_s0 (by kernel_rfl) ?_
  rw [e0]
  exact @awp_loop_rest _ _ ⟨none, some b⟩ _ _ _ _ _ _ _ _ (good_ck (rd := ⟨none, some b⟩) hG0 hm ht hy.1 hy.2.1 sitesCk_l1 sitesCk_h1 sitesCk_s1 (good_ck (rd := ⟨none, some b⟩) hG0 hm ht hy.1 hy.2.1 sitesCk_l2 sitesCk_h2 sitesCk_s2 (good_end (rd := ⟨none, some b⟩) hm ht hy.1 hy.2.1 e2 hL)))

theorem r255 : Pure Tryd.prog G0 12 [condV, stdV] (.sl false [[.sl true [], .int .i64 6], [.sl true [], .int .i64 8], [.sl false [[.int .i64 0]], .int .i64 2], [.sl false [[.int .i64 0], [.int .i64 0]], .int .i64 0], [.sl false [[.int .i64 0], [.int .i64 0], [.int .i64 1]], .int .i64 13]]) := sitesCk
theorem r256 : Pure Tryd.prog G0 28 [.sl false [[.sl true [], .int .i64 6], [.sl true [], .int .i64 8], [.sl false [[.int .i64 0]], .int .i64 2], [.sl false [[.int .i64 0], [.int .i64 0]], .int .i64 0], [.sl false [[.int .i64 0], [.int .i64 0], [.int .i64 1]], .int .i64 13]], .sl true [[.sl true [], .int .i64 6], [.sl true [], .int .i64 8], [.sl true [[.int .i64 0]], .int .i64 2], [.sl true [[.int .i64 0], [.int .i64 0]], .int .i64 0], [.sl true [[.int .i64 0], [.int .i64 0], [.int .i64 1]], .int .i64 13]]] (.bool true) := pure_of_call 60 60 _ [] no_table hG0 (by kernel_rfl) (by kernel_rfl) (by kernel_rfl)
theorem r257 : Pure Tryd.prog G0 5 [.agg [.sl true [], .int .i64 8], .agg [.sl true [[.int .i64 0]], .int .i64 2]] (.int .i64 (-1)) := pure_of_call 60 60 _ [] no_table hG0 (by kernel_rfl) (by kernel_rfl) (by kernel_rfl)
theorem r258 : Pure Tryd.prog G0 26 [.agg [.int .i64 9, .int .i64 1, .int .i64 0, .sl false [[.int .i64 6, .int .i64 0, .int .i64 0, .sl true []], [.int .i64 4, .int .i64 1, .int .i64 0, .sl true []]]], .agg [.int .i64 9, .int .i64 1, .int .i64 0, .sl true [[.int .i64 6, .int .i64 0, .int .i64 0, .sl true []], [.int .i64 4, .int .i64 1, .int .i64 0, .sl true []]]]] (.bool true) := pure_of_call 60 60 _ [] no_table hG0 (by kernel_rfl) (by kernel_rfl) (by kernel_rfl)
theorem r259 : Pure Tryd.prog G0 9 [] (.bool true) := pure_of_call 60 60 _ [] (tbl_cons r0 (tbl_cons r253 (tbl_cons r254 (tbl_cons r251 (tbl_cons r252 (tbl_cons r258 (tbl_cons r23 (tbl_cons r255 (tbl_cons r256 (tbl_cons r257 no_table)))))))))) hG0 (by kernel_rfl) (by kernel_rfl) (by kernel_rfl)
end Go.Proofs.YtpdibmopbpcfdaaDoor
