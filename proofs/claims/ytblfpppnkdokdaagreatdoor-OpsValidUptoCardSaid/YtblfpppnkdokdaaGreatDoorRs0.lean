import Derived.Test.YtblfpppnkdokdaaGreatDoorRa
import Derived.Test.YtblfpppnkdokdaaGreatDoorRb
import Derived.Test.YtblfpppnkdokdaaGreatDoorP4
set_option maxRecDepth 100000
set_option linter.unusedVariables false
namespace Go.Proofs.YtblfpppnkdokdaaGreatDoor
open Go.AM
noncomputable def sitesCk_T : List (FuncId × List AV × AV) := [(61, [condV], .sl false [[.sl false []], [.sl false [[.int .i64 0]]], [.sl false [[.int .i64 0], [.int .i64 0]]], [.sl false [[.int .i64 0], [.int .i64 0], [.int .i64 0]]], [.sl false [[.int .i64 0], [.int .i64 0], [.int .i64 1]]], [.sl false [[.int .i64 0], [.int .i64 1]]], [.sl false [[.int .i64 1]]], [.sl false [[.int .i64 1], [.int .i64 0]]], [.sl false [[.int .i64 2]]]])] ++ (tP ++ (tA ++ tB))
noncomputable abbrev sitesCk_X (c : Code) (s : AS) : Option (List (Exit × AS)) := exX Tryz.prog G0 (callY Tryz.prog G0 60 sitesCk_T [] 40).1 (callY Tryz.prog G0 60 sitesCk_T [] 40).2 true 60 Tryz.f23.ntmps c s
noncomputable abbrev sitesCk_C : List Code := codeL Tryz.f23
def sitesCk_A : List AV := [condV, stdV]
def sitesCk_l0 : List (Nat × AV) := [(1, stdV), (2, .ptr 0 0 0), (5, .sl true []), (18, .sl false [[.sl false []], [.sl false [[.int .i64 0]]], [.sl false [[.int .i64 0], [.int .i64 0]]], [.sl false [[.int .i64 0], [.int .i64 0], [.int .i64 0]]], [.sl false [[.int .i64 0], [.int .i64 0], [.int .i64 1]]], [.sl false [[.int .i64 0], [.int .i64 1]]], [.sl false [[.int .i64 1]]], [.sl false [[.int .i64 1], [.int .i64 0]]], [.sl false [[.int .i64 2]]]]), (19, .int .i64 9), (20, .int .i64 0)]
def sitesCk_h0 : List ARow := [.cells 0 [.int .i64 17, .int .i64 0, .int .i64 0, .sl true [[.int .i64 9, .int .i64 10, .int .i64 0, .sl true [[.int .i64 9, .int .i64 0, .int .i64 0, .sl true [[.int .i64 6, .int .i64 0, .int .i64 0, .sl true []], [.int .i64 4, .int .i64 1, .int .i64 0, .sl true []]]], [.int .i64 4, .int .i64 2, .int .i64 0, .sl true []]]], [.int .i64 13, .int .i64 0, .int .i64 0, .sl true [[.int .i64 25, .int .i64 0, .int .i64 0, .sl true []]]], [.int .i64 13, .int .i64 0, .int .i64 0, .sl true []]]]]
def sitesCk_l1 : List (Nat × AV) := [(1, stdV), (2, .ptr 0 0 0), (5, .osl 16 3 0 4 2 false), (18, .sl false [[.sl false []], [.sl false [[.int .i64 0]]], [.sl false [[.int .i64 0], [.int .i64 0]]], [.sl false [[.int .i64 0], [.int .i64 0], [.int .i64 0]]], [.sl false [[.int .i64 0], [.int .i64 0], [.int .i64 1]]], [.sl false [[.int .i64 0], [.int .i64 1]]], [.sl false [[.int .i64 1]]], [.sl false [[.int .i64 1], [.int .i64 0]]], [.sl false [[.int .i64 2]]]]), (19, .int .i64 9), (20, .int .i64 3)]
def sitesCk_h1 : List ARow := [.cells 0 [.int .i64 17, .int .i64 0, .int .i64 0, .sl true [[.int .i64 9, .int .i64 10, .int .i64 0, .sl true [[.int .i64 9, .int .i64 0, .int .i64 0, .sl true [[.int .i64 6, .int .i64 0, .int .i64 0, .sl true []], [.int .i64 4, .int .i64 1, .int .i64 0, .sl true []]]], [.int .i64 4, .int .i64 2, .int .i64 0, .sl true []]]], [.int .i64 13, .int .i64 0, .int .i64 0, .sl true [[.int .i64 25, .int .i64 0, .int .i64 0, .sl true []]]], [.int .i64 13, .int .i64 0, .int .i64 0, .sl true []]]], .dead, .dead, .dead, .dead, .dead, .dead, .dead, .dead, .dead, .dead, .dead, .dead, .dead, .dead, .dead, .cells 3 [.sl true [], .int .i64 6, .sl true [], .int .i64 8, .sl false [[.int .i64 0]], .int .i64 2, .sl false [[.int .i64 0], [.int .i64 0]], .int .i64 0]]
def sitesCk_l2 : List (Nat × AV) := [(1, stdV), (2, .ptr 0 0 0), (5, .osl 16 4 0 5 2 false), (18, .sl false [[.sl false []], [.sl false [[.int .i64 0]]], [.sl false [[.int .i64 0], [.int .i64 0]]], [.sl false [[.int .i64 0], [.int .i64 0], [.int .i64 0]]], [.sl false [[.int .i64 0], [.int .i64 0], [.int .i64 1]]], [.sl false [[.int .i64 0], [.int .i64 1]]], [.sl false [[.int .i64 1]]], [.sl false [[.int .i64 1], [.int .i64 0]]], [.sl false [[.int .i64 2]]]]), (19, .int .i64 9), (20, .int .i64 6)]
def sitesCk_h2 : List ARow := [.cells 0 [.int .i64 17, .int .i64 0, .int .i64 0, .sl true [[.int .i64 9, .int .i64 10, .int .i64 0, .sl true [[.int .i64 9, .int .i64 0, .int .i64 0, .sl true [[.int .i64 6, .int .i64 0, .int .i64 0, .sl true []], [.int .i64 4, .int .i64 1, .int .i64 0, .sl true []]]], [.int .i64 4, .int .i64 2, .int .i64 0, .sl true []]]], [.int .i64 13, .int .i64 0, .int .i64 0, .sl true [[.int .i64 25, .int .i64 0, .int .i64 0, .sl true []]]], [.int .i64 13, .int .i64 0, .int .i64 0, .sl true []]]], .dead, .dead, .dead, .dead, .dead, .dead, .dead, .dead, .dead, .dead, .dead, .dead, .dead, .dead, .dead, .cells 4 [.sl true [], .int .i64 6, .sl true [], .int .i64 8, .sl false [[.int .i64 0]], .int .i64 2, .sl false [[.int .i64 0], [.int .i64 0]], .int .i64 0, .sl false [[.int .i64 0], [.int .i64 0], [.int .i64 1]], .int .i64 13]]
def sitesCk_R : AV := .sl false [[.sl true [], .int .i64 6], [.sl true [], .int .i64 8], [.sl false [[.int .i64 0]], .int .i64 2], [.sl false [[.int .i64 0], [.int .i64 0]], .int .i64 0], [.sl false [[.int .i64 0], [.int .i64 0], [.int .i64 1]], .int .i64 13]]
theorem tP_ok : Runs tP := runs_ok [] no_table (by kernel_rfl)
theorem sitesCk_t : ∀ e ∈ sitesCk_T, Pure Tryz.prog G0 e.1 e.2.1 e.2.2 := Runs.app (tbl_cons paths_cond no_table) (tP_ok.app (tA_ok.app tB_ok))
theorem sitesCk_c : isLoopC (sitesCk_C.drop 5) = true := by kernel_rfl
theorem sitesCk_s0 : ckO (preX sitesCk_X 5 sitesCk_C ⟨mkF (enterF 0 sitesCk_A), []⟩) sitesCk_l0 sitesCk_h0 = true := by kernel_rfl
theorem sitesCk_s1 : ckO (roundsX (sitesCk_X (loopC (sitesCk_C.drop 5))) 3 ⟨mkF sitesCk_l0, sitesCk_h0⟩) sitesCk_l1 sitesCk_h1 = true := by kernel_rfl
theorem sitesCk_s2 : ckO (roundsX (sitesCk_X (loopC (sitesCk_C.drop 5))) 3 ⟨mkF sitesCk_l1, sitesCk_h1⟩) sitesCk_l2 sitesCk_h2 = true := by kernel_rfl
theorem sitesCk_e : isRes Tryz.prog Tryz.f23 sitesCk_R (exXL sitesCk_X (sitesCk_C.drop 5) ⟨mkF sitesCk_l2, sitesCk_h2⟩) = true := by kernel_rfl
end Go.Proofs.YtblfpppnkdokdaaGreatDoor
set_option maxRecDepth 100000
set_option linter.unusedVariables false
namespace Go.Proofs.YtblfpppnkdokdaaGreatDoor
open Go.AM
theorem sitesCk : Pure Tryz.prog G0 23 sitesCk_A sitesCk_R := by
  have hm : Tryz.prog.follows .mixedOrders = true := by kernel_rfl
  have hy := callY_ok (N := 60) (K := []) sitesCk_t hG0 hm 40
  obtain ⟨L, e1, hL⟩ := isRes_ok sitesCk_e
  have e0 := loopC_eq sitesCk_c
  have e2 := e1
  rw [e0] at e2
  have hb : Tryz.f23.body = some (codeOf Tryz.f23) := by kernel_rfl
  refine pure_of_bodyL hG0 Tryz.func23 hb (by kernel_rfl) (of_decide_eq_true (by kernel_rfl)) (by kernel_rfl) (by kernel_rfl) fun b => @awp_flat ⟨none, some b⟩ _ _ _ _ _ _ _ ?_
  rw [← codeL_eq hb]
  have ht : true = true → (⟨none, some b⟩ : Rnd).round = none ∧ ∃ b', (⟨none, some b⟩ : Rnd).base = some b' := fun _ => ⟨rfl, b, rfl⟩
  refine @awpL_ck _ _ _ _ ⟨none, some b⟩ true _ _ hG0 hm ht hy.1 hy.2.1 _ _ _ _ sitesCk_l0 sitesCk_h0 sitesCk_s0 (by kernel_rfl) ?_
  rw [e0]
  exact @awp_loop_rest _ _ ⟨none, some b⟩ _ _ _ _ _ _ _ _ (good_ck (rd := ⟨none, some b⟩) hG0 hm ht hy.1 hy.2.1 sitesCk_l1 sitesCk_h1 sitesCk_s1 (good_ck (rd := ⟨none, some b⟩) hG0 hm ht hy.1 hy.2.1 sitesCk_l2 sitesCk_h2 sitesCk_s2 (good_end (rd := ⟨none, some b⟩) hm ht hy.1 hy.2.1 e2 hL)))
def tM : List (FuncId × List AV × AV) := [(17, [.agg [.int .i64 9, .int .i64 1, .int .i64 0, .sl true [[.int .i64 28, .int .i64 0, .int .i64 0, .sl true []], [.int .i64 28, .int .i64 0, .int .i64 0, .sl true []]]], .agg [.int .i64 9, .int .i64 1, .int .i64 0, .sl true [[.int .i64 6, .int .i64 0, .int .i64 0, .sl true []], [.int .i64 6, .int .i64 0, .int .i64 0, .sl true []]]]], .tup [.sl false [[.int .i64 6, .int .i64 0, .int .i64 0, .sl true []]], .bool true]), (17, [.agg [.int .i64 9, .int .i64 1, .int .i64 0, .sl true [[.int .i64 28, .int .i64 0, .int .i64 0, .sl true []], [.int .i64 28, .int .i64 0, .int .i64 0, .sl true []]]], .agg [.int .i64 9, .int .i64 1, .int .i64 0, .sl true [[.int .i64 6, .int .i64 0, .int .i64 0, .sl true []], [.int .i64 6, .int .i64 1, .int .i64 0, .sl true []]]]], .tup [.sl true [], .bool false]), (19, [oV0, .agg [.int .i64 9, .int .i64 0, .int .i64 0, .sl true [[.int .i64 6, .int .i64 0, .int .i64 0, .sl true []], [.int .i64 4, .int .i64 1, .int .i64 0, .sl true []]]]], .tup [.agg [.int .i64 9, .int .i64 1, .int .i64 0, .sl false [[.int .i64 6, .int .i64 0, .int .i64 0, .sl true []], [.int .i64 4, .int .i64 1, .int .i64 0, .sl true []]]], .bool true]), (19, [oV0, .agg [.int .i64 9, .int .i64 1, .int .i64 0, .sl true [[.int .i64 6, .int .i64 0, .int .i64 0, .sl true []], [.int .i64 4, .int .i64 1, .int .i64 0, .sl true []]]]], zV)]
def tE : List (FuncId × List AV × AV) := [(24, [.sl false [[.sl true [], .int .i64 6], [.sl true [], .int .i64 8], [.sl false [[.int .i64 0]], .int .i64 2], [.sl false [[.int .i64 0], [.int .i64 0]], .int .i64 0], [.sl false [[.int .i64 0], [.int .i64 0], [.int .i64 1]], .int .i64 13]], .sl true [[.sl true [], .int .i64 6], [.sl true [], .int .i64 8], [.sl true [[.int .i64 0]], .int .i64 2], [.sl true [[.int .i64 0], [.int .i64 0]], .int .i64 0], [.sl true [[.int .i64 0], [.int .i64 0], [.int .i64 1]], .int .i64 13]]], .bool true), (26, [.agg [.sl true [], .int .i64 8], .agg [.sl true [[.int .i64 0]], .int .i64 2]], .int .i64 (-1)), (22, [.agg [.int .i64 9, .int .i64 1, .int .i64 0, .sl false [[.int .i64 6, .int .i64 0, .int .i64 0, .sl true []], [.int .i64 4, .int .i64 1, .int .i64 0, .sl true []]]], .agg [.int .i64 9, .int .i64 1, .int .i64 0, .sl true [[.int .i64 6, .int .i64 0, .int .i64 0, .sl true []], [.int .i64 4, .int .i64 1, .int .i64 0, .sl true []]]]], .bool true)]
theorem tM_ok : Runs tM := runs_ok [90] (tV_ok.app tW_ok) (by kernel_rfl)
theorem tE_ok : Runs tE := runs_ok [] no_table (by kernel_rfl)
theorem r255 : Pure Tryz.prog G0 23 [condV, stdV] (.sl false [[.sl true [], .int .i64 6], [.sl true [], .int .i64 8], [.sl false [[.int .i64 0]], .int .i64 2], [.sl false [[.int .i64 0], [.int .i64 0]], .int .i64 0], [.sl false [[.int .i64 0], [.int .i64 0], [.int .i64 1]], .int .i64 13]]) := sitesCk
theorem r259 : Pure Tryz.prog G0 14 [] (.bool true) := pure_of_call 60 60 _ [] (tbl_cons r0 (tbl_cons r255 (tM_ok.app (tE_ok.app tW_ok)))) hG0 (by kernel_rfl) (by kernel_rfl) (by kernel_rfl)
end Go.Proofs.YtblfpppnkdokdaaGreatDoor
