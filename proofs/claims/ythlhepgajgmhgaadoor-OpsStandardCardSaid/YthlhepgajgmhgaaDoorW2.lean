import Derived.Test.YthlhepgajgmhgaaDoorR1
import Derived.Test.YthlhepgajgmhgaaDoorR2
import Derived.Test.YthlhepgajgmhgaaDoorR3
import Derived.Test.YthlhepgajgmhgaaDoorRl
import Derived.Test.YthlhepgajgmhgaaDoorW1
set_option linter.unusedVariables false
set_option linter.unusedSimpArgs false
namespace Go.Proofs.YthlhepgajgmhgaaDoor
open Go.AM
set_option maxRecDepth 100000
def wT1 : List (FuncId × List AV × AV) := [(4, [], stdV),
  (5, [], stdV),
  (6, [.agg [.int .i64 9, .int .i64 0, .int .i64 0, .sl true [[.int .i64 28, .int .i64 0, .int .i64 0, .sl true []], [.int .i64 28, .int .i64 1, .int .i64 0, .sl true []]]], .agg [.int .i64 9, .int .i64 0, .int .i64 0, .sl true [[.int .i64 28, .int .i64 0, .int .i64 0, .sl true []], [.int .i64 28, .int .i64 1, .int .i64 0, .sl true []]]]], .bool true),
  (6, [.agg [.int .i64 9, .int .i64 1, .int .i64 0, .sl true [[.int .i64 28, .int .i64 0, .int .i64 0, .sl true []], [.int .i64 28, .int .i64 1, .int .i64 0, .sl true []]]], .agg [.int .i64 9, .int .i64 1, .int .i64 0, .sl true [[.int .i64 28, .int .i64 0, .int .i64 0, .sl true []], [.int .i64 28, .int .i64 1, .int .i64 0, .sl true []]]]], .bool true),
  (6, [.agg [.int .i64 9, .int .i64 10, .int .i64 0, .sl true [[.int .i64 28, .int .i64 0, .int .i64 0, .sl true []], [.int .i64 28, .int .i64 1, .int .i64 0, .sl true []]]], .agg [.int .i64 9, .int .i64 10, .int .i64 0, .sl true [[.int .i64 28, .int .i64 0, .int .i64 0, .sl true []], [.int .i64 28, .int .i64 1, .int .i64 0, .sl true []]]]], .bool true),
  (6, [.agg [.int .i64 9, .int .i64 11, .int .i64 0, .sl true [[.int .i64 28, .int .i64 0, .int .i64 0, .sl true []], [.int .i64 28, .int .i64 1, .int .i64 0, .sl true []]]], .agg [.int .i64 9, .int .i64 11, .int .i64 0, .sl true [[.int .i64 28, .int .i64 0, .int .i64 0, .sl true []], [.int .i64 28, .int .i64 1, .int .i64 0, .sl true []]]]], .bool true),
  (6, [.agg [.int .i64 9, .int .i64 12, .int .i64 0, .sl true [[.int .i64 28, .int .i64 0, .int .i64 0, .sl true []], [.int .i64 28, .int .i64 1, .int .i64 0, .sl true []]]], .agg [.int .i64 9, .int .i64 12, .int .i64 0, .sl true [[.int .i64 28, .int .i64 0, .int .i64 0, .sl true []], [.int .i64 28, .int .i64 1, .int .i64 0, .sl true []]]]], .bool true),
  (6, [.agg [.int .i64 9, .int .i64 13, .int .i64 0, .sl true [[.int .i64 28, .int .i64 0, .int .i64 0, .sl true []], [.int .i64 28, .int .i64 1, .int .i64 0, .sl true []]]], .agg [.int .i64 9, .int .i64 13, .int .i64 0, .sl true [[.int .i64 28, .int .i64 0, .int .i64 0, .sl true []], [.int .i64 28, .int .i64 1, .int .i64 0, .sl true []]]]], .bool true),
  (6, [.agg [.int .i64 17, .int .i64 0, .int .i64 0, .sl true [[.int .i64 28, .int .i64 0, .int .i64 0, .sl true []], [.int .i64 28, .int .i64 1, .int .i64 0, .sl true []], [.int .i64 28, .int .i64 2, .int .i64 0, .sl true []]]], .agg [.int .i64 17, .int .i64 0, .int .i64 0, .sl true [[.int .i64 28, .int .i64 0, .int .i64 0, .sl true []], [.int .i64 28, .int .i64 1, .int .i64 0, .sl true []], [.int .i64 28, .int .i64 2, .int .i64 0, .sl true []]]]], .bool true),
  (6, [.agg [.int .i64 17, .int .i64 0, .int .i64 0, .sl true [[.int .i64 10, .int .i64 0, .int .i64 0, .sl true [[.int .i64 28, .int .i64 0, .int .i64 0, .sl true []]]], [.int .i64 28, .int .i64 1, .int .i64 0, .sl true []], [.int .i64 28, .int .i64 2, .int .i64 0, .sl true []]]], .agg [.int .i64 17, .int .i64 0, .int .i64 0, .sl true [[.int .i64 10, .int .i64 0, .int .i64 0, .sl true [[.int .i64 28, .int .i64 0, .int .i64 0, .sl true []]]], [.int .i64 28, .int .i64 1, .int .i64 0, .sl true []], [.int .i64 28, .int .i64 2, .int .i64 0, .sl true []]]]], .bool true),
  (6, [.agg [.int .i64 17, .int .i64 0, .int .i64 0, .sl true [[.int .i64 28, .int .i64 0, .int .i64 0, .sl true []], [.int .i64 28, .int .i64 2, .int .i64 0, .sl true []], [.int .i64 28, .int .i64 1, .int .i64 0, .sl true []]]], .agg [.int .i64 17, .int .i64 0, .int .i64 0, .sl true [[.int .i64 28, .int .i64 0, .int .i64 0, .sl true []], [.int .i64 28, .int .i64 2, .int .i64 0, .sl true []], [.int .i64 28, .int .i64 1, .int .i64 0, .sl true []]]]], .bool true),
  (6, [.agg [.int .i64 9, .int .i64 1, .int .i64 0, .sl true [[.int .i64 28, .int .i64 1, .int .i64 0, .sl true []], [.int .i64 28, .int .i64 0, .int .i64 0, .sl true []]]], .agg [.int .i64 9, .int .i64 1, .int .i64 0, .sl true [[.int .i64 28, .int .i64 1, .int .i64 0, .sl true []], [.int .i64 28, .int .i64 0, .int .i64 0, .sl true []]]]], .bool true),
  (6, [.agg [.int .i64 5, .int .i64 0, .int .i64 0, .sl true []], .agg [.int .i64 5, .int .i64 0, .int .i64 0, .sl true []]], .bool true),
  (6, [.agg [.int .i64 5, .int .i64 1, .int .i64 0, .sl true []], .agg [.int .i64 5, .int .i64 1, .int .i64 0, .sl true []]], .bool true),
  (6, [.agg [.int .i64 4, .int .i64 0, .int .i64 0, .sl true []], .agg [.int .i64 4, .int .i64 0, .int .i64 0, .sl true []]], .bool true),
  (6, [nV4, nV4], .bool true),
  (6, [.agg [.int .i64 9, .int .i64 2, .int .i64 0, .sl true [[.int .i64 28, .int .i64 0, .int .i64 0, .sl true []], [.int .i64 28, .int .i64 1, .int .i64 0, .sl true []]]], .agg [.int .i64 9, .int .i64 2, .int .i64 0, .sl true [[.int .i64 28, .int .i64 0, .int .i64 0, .sl true []], [.int .i64 28, .int .i64 1, .int .i64 0, .sl true []]]]], .bool true),
  (6, [.agg [.int .i64 9, .int .i64 3, .int .i64 0, .sl true [[.int .i64 28, .int .i64 0, .int .i64 0, .sl true []], [.int .i64 28, .int .i64 1, .int .i64 0, .sl true []]]], .agg [.int .i64 9, .int .i64 3, .int .i64 0, .sl true [[.int .i64 28, .int .i64 0, .int .i64 0, .sl true []], [.int .i64 28, .int .i64 1, .int .i64 0, .sl true []]]]], .bool true),
  (6, [.agg [.int .i64 9, .int .i64 5, .int .i64 0, .sl true [[.int .i64 28, .int .i64 0, .int .i64 0, .sl true []], [.int .i64 28, .int .i64 1, .int .i64 0, .sl true []]]], .agg [.int .i64 9, .int .i64 5, .int .i64 0, .sl true [[.int .i64 28, .int .i64 0, .int .i64 0, .sl true []], [.int .i64 28, .int .i64 1, .int .i64 0, .sl true []]]]], .bool true),
  (6, [.agg [.int .i64 9, .int .i64 6, .int .i64 0, .sl true [[.int .i64 28, .int .i64 0, .int .i64 0, .sl true []], [.int .i64 28, .int .i64 1, .int .i64 0, .sl true []]]], .agg [.int .i64 9, .int .i64 6, .int .i64 0, .sl true [[.int .i64 28, .int .i64 0, .int .i64 0, .sl true []], [.int .i64 28, .int .i64 1, .int .i64 0, .sl true []]]]], .bool true),
  (6, [.agg [.int .i64 9, .int .i64 8, .int .i64 0, .sl true [[.int .i64 28, .int .i64 0, .int .i64 0, .sl true []], [.int .i64 28, .int .i64 1, .int .i64 0, .sl true []]]], .agg [.int .i64 9, .int .i64 8, .int .i64 0, .sl true [[.int .i64 28, .int .i64 0, .int .i64 0, .sl true []], [.int .i64 28, .int .i64 1, .int .i64 0, .sl true []]]]], .bool true),
  (6, [.agg [.int .i64 9, .int .i64 9, .int .i64 0, .sl true [[.int .i64 28, .int .i64 0, .int .i64 0, .sl true []], [.int .i64 28, .int .i64 1, .int .i64 0, .sl true []]]], .agg [.int .i64 9, .int .i64 9, .int .i64 0, .sl true [[.int .i64 28, .int .i64 0, .int .i64 0, .sl true []], [.int .i64 28, .int .i64 1, .int .i64 0, .sl true []]]]], .bool true),
  (6, [.agg [.int .i64 24, .int .i64 0, .int .i64 0, .sl true [[.int .i64 28, .int .i64 0, .int .i64 0, .sl true []]]], .agg [.int .i64 24, .int .i64 0, .int .i64 0, .sl true [[.int .i64 28, .int .i64 0, .int .i64 0, .sl true []]]]], .bool true),
  (6, [nV7, nV7], .bool true),
  (6, [.agg [.int .i64 18, .int .i64 0, .int .i64 0, .sl true [[.int .i64 28, .int .i64 0, .int .i64 0, .sl true []], [.int .i64 28, .int .i64 1, .int .i64 0, .sl true []]]], .agg [.int .i64 18, .int .i64 0, .int .i64 0, .sl true [[.int .i64 28, .int .i64 0, .int .i64 0, .sl true []], [.int .i64 28, .int .i64 1, .int .i64 0, .sl true []]]]], .bool true),
  (6, [.agg [.int .i64 17, .int .i64 0, .int .i64 0, .sl true [[.int .i64 28, .int .i64 0, .int .i64 0, .sl true []], [.int .i64 28, .int .i64 1, .int .i64 0, .sl true []], [.int .i64 13, .int .i64 0, .int .i64 0, .sl true []]]], .agg [.int .i64 17, .int .i64 0, .int .i64 0, .sl true [[.int .i64 28, .int .i64 0, .int .i64 0, .sl true []], [.int .i64 28, .int .i64 1, .int .i64 0, .sl true []], [.int .i64 13, .int .i64 0, .int .i64 0, .sl true []]]]], .bool true),
  (6, [.agg [.int .i64 7, .int .i64 (-100), .int .i64 0, .sl true [[.int .i64 28, .int .i64 0, .int .i64 0, .sl true []]]], .agg [.int .i64 7, .int .i64 (-100), .int .i64 0, .sl true [[.int .i64 28, .int .i64 0, .int .i64 0, .sl true []]]]], .bool true),
  (6, [.agg [.int .i64 7, .int .i64 (-100), .int .i64 0, .sl true [[.int .i64 9, .int .i64 0, .int .i64 0, .sl true [[.int .i64 28, .int .i64 0, .int .i64 0, .sl true []], [.int .i64 4, .int .i64 1, .int .i64 0, .sl true []]]]]], .agg [.int .i64 7, .int .i64 (-100), .int .i64 0, .sl true [[.int .i64 9, .int .i64 0, .int .i64 0, .sl true [[.int .i64 28, .int .i64 0, .int .i64 0, .sl true []], [.int .i64 4, .int .i64 1, .int .i64 0, .sl true []]]]]]], .bool true),
  (7, [oV0], .bool true),
  (7, [oV1], .bool true),
  (7, [oV2], .bool true),
  (7, [oV3], .bool true),
  (7, [oV4], .bool true),
  (7, [oV5], .bool true),
  (7, [oV6], .bool true),
  (7, [oV7], .bool true),
  (7, [oV8], .bool true),
  (7, [oV9], .bool true),
  (7, [oV10], .bool true),
  (7, [oV11], .bool true),
  (7, [oV12], .bool true),
  (7, [oV13], .bool true),
  (7, [oV14], .bool true),
  (7, [oV15], .bool true),
  (7, [oV16], .bool true),
  (7, [oV17], .bool true),
  (7, [oV18], .bool true),
  (7, [oV19], .bool true),
  (7, [oV20], .bool true),
  (7, [oV21], .bool true),
  (7, [oV22], .bool true),
  (7, [oV23], .bool true)]
theorem wT1_ok : ∀ e ∈ wT1, Pure Tryd.prog G0 e.1 e.2.1 e.2.2 := (tbl_cons r0 (tbl_cons r1 (tbl_cons r26 (tbl_cons r27 (tbl_cons r28 (tbl_cons r29 (tbl_cons r30 (tbl_cons r31 (tbl_cons r32 (tbl_cons r33 (tbl_cons r34 (tbl_cons r35 (tbl_cons r36 (tbl_cons r37 (tbl_cons r38 (tbl_cons r39 (tbl_cons r40 (tbl_cons r41 (tbl_cons r42 (tbl_cons r43 (tbl_cons r44 (tbl_cons r45 (tbl_cons r46 (tbl_cons r47 (tbl_cons r48 (tbl_cons r49 (tbl_cons r50 (tbl_cons r51 (tbl_cons r2 (tbl_cons r3 (tbl_cons r4 (tbl_cons r5 (tbl_cons r6 (tbl_cons r7 (tbl_cons r8 (tbl_cons r9 (tbl_cons r10 (tbl_cons r11 (tbl_cons r12 (tbl_cons r13 (tbl_cons r14 (tbl_cons r15 (tbl_cons r16 (tbl_cons r17 (tbl_cons r18 (tbl_cons r19 (tbl_cons r20 (tbl_cons r21 (tbl_cons r22 (tbl_cons r23 (tbl_cons r24 (tbl_cons r25 no_table))))))))))))))))))))))))))))))))))))))))))))))))))))
def wT2 : List (FuncId × List AV × AV) := [(9, [], .bool true)]
theorem wT2_ok : ∀ e ∈ wT2, Pure Tryd.prog G0 e.1 e.2.1 e.2.2 := (tbl_cons r286 no_table)

noncomputable def wC : List Code := codeL Tryd.f3
noncomputable def wX1 (c : Code) (s : AS) : Option (List (Exit × AS)) := exX Tryd.prog G0 (callY Tryd.prog G0 60 wT1 [] 40).1 (callY Tryd.prog G0 60 wT1 [] 40).2 true 60 Tryd.f3.ntmps c s
noncomputable def wX2 (c : Code) (s : AS) : Option (List (Exit × AS)) := exX Tryd.prog G0 (callY Tryd.prog G0 60 wT2 [] 40).1 (callY Tryd.prog G0 60 wT2 [] 40).2 true 60 Tryd.f3.ntmps c s
theorem w_a (x : Int) : outS [(3, stdV)] [] 0 (match preX wX1 6 wC ⟨mkF (enterF 0 [.int .i64 x]), []⟩ with | some s => iterX0 (wX1 (loopC (wC.drop 6))) 60 s | none => none) = some (loopId (wC.drop 6), true, .int .i64 x) := by kernel_rfl
theorem w_b (x : Int) : regCallee Tryd.prog G0 (callY Tryd.prog G0 60 wT2 [] 40).1 (callY Tryd.prog G0 60 wT2 [] 40).2 Tryd.f3.ntmps (regOps (wC.drop 6).tail) 3 ⟨mkF [(0, .int .i64 x), (3, stdV)], []⟩ = some (8, [.int .i64 x, .int .i64 24]) := by kernel_rfl
theorem w_c (x : Int) : (List.range 24).all (fun k => ckO (regCallX Tryd.prog G0 (callY Tryd.prog G0 60 wT2 [] 40).1 (callY Tryd.prog G0 60 wT2 [] 40).2 Tryd.f3.ntmps (regOps (wC.drop 6).tail) 3 ⟨mkF [(0, .int .i64 x), (3, stdV)], []⟩ (.int .i64 (Int.ofNat k))) [(3, stdV), (6, .int .i64 (Int.ofNat k))] []) = true := by kernel_rfl
theorem w_d : (List.range 24).all (fun k => isRes Tryd.prog Tryd.f3 (.bool true) (exXL wX2 (wC.drop 8) ⟨mkF [(3, stdV), (6, .int .i64 (Int.ofNat k))], []⟩)) = true := by kernel_rfl
theorem law_3 (x : Int) (hx : Small64 x) : Pure Tryd.prog G0 3 [.int .i64 x] (.bool true) := by
  have hm : Tryd.prog.follows .mixedOrders = true := by kernel_rfl
  have hy1 := callY_ok (N := 60) (K := []) wT1_ok hG0 hm 40
  have hy2 := callY_ok (N := 60) (K := []) wT2_ok hG0 hm 40
  have hb : Tryd.f3.body = some (codeOf Tryd.f3) := by kernel_rfl
  have h8 := around_8 x 24 hx (by decide)
  obtain ⟨g1, g2⟩ := around_nonneg x 24 (by decide)
  have hk : ∃ k, k < 24 ∧ around x 24 = Int.ofNat k := ⟨(around x 24).toNat, by omega, (Int.toNat_of_nonneg g1).symm⟩
  obtain ⟨k, hk, ek⟩ := hk
  rw [ek] at h8
  have hkm := List.mem_range.2 hk
  obtain ⟨L, e1, hL⟩ := isRes_ok (List.all_eq_true.1 w_d k hkm)
  refine pure_of_bodyL hG0 Tryd.func3 hb (by kernel_rfl) (of_decide_eq_true (by kernel_rfl)) (by simp [inL, inR]) (by simp [inR]) fun b => @awp_flat ⟨none, some b⟩ _ _ _ _ _ _ _ ?_
  rw [← codeL_eq hb]
  have ht : true = true → (⟨none, some b⟩ : Rnd).round = none ∧ ∃ b', (⟨none, some b⟩ : Rnd).base = some b' := fun _ => ⟨rfl, b, rfl⟩
  have h0 := w_a x
  cases h6 : preX wX1 6 wC ⟨mkF (enterF 0 [.int .i64 x]), []⟩ with
  | none => rw [h6] at h0; cases h0
  | some s6 =>
  rw [h6] at h0
  refine @awpL_preX _ _ _ _ ⟨none, some b⟩ true 60 _ _ hm ht hy1.1 hy1.2.1 _ 6 _ _ s6 h6 ?_
  refine @awpL_loop_sym _ _ _ _ ⟨none, some b⟩ true 60 _ hG0 hm ht hy1.1 hy1.2.1 _ _ _ 60 [(3, stdV)] [] 0 (.int .i64 x) rfl (by kernel_rfl) h0 (by kernel_rfl) ?_
  refine @awpL_regcall _ _ _ _ ⟨none, some b⟩ _ hG0 hy2.1 hy2.2.1 _ _ _ 3 8 [.int .i64 x, .int .i64 24] (.int .i64 (Int.ofNat k)) [(3, stdV), (6, .int .i64 (Int.ofNat k))] [] (by kernel_rfl) (w_b x) h8 (List.all_eq_true.1 (w_c x) k hkm) (by kernel_rfl) ?_
  rw [show (List.drop 6 (codeL Tryd.f3)).tail.tail = wC.drop 8 by kernel_rfl]
  exact @awpL_run _ _ _ _ ⟨none, some b⟩ true _ _ _ hm ht hy2.1 hy2.2.1 _ _ _ _ e1 hL

end Go.Proofs.YthlhepgajgmhgaaDoor
