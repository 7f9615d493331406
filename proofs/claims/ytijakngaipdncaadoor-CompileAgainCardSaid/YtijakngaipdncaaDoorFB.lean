import Derived.Test.YtijakngaipdncaaDoorFA
set_option linter.unusedVariables false
set_option linter.unusedSimpArgs false
namespace Go.Proofs.YtijakngaipdncaaDoor
open Go.AM
attribute [local irreducible] AWp rgnS callR callV effR valR guardR stepR nextR
set_option maxRecDepth 100000
theorem ev_g0 {get : Nat → AV} : evA G0 get (.global 0) = .imm gOps := rfl
theorem ne_of_beq {z : Int} (h : (z == 0) = false) : z ≠ 0 := by simpa using h
set_option maxHeartbeats 4000000 in
theorem op_ex (n x y : Int) (h1 : 0 ≤ n) (h2 : n < 14) : EP Tryd.prog G0 46 [.int .i64 n, .int .i64 x, .int .i64 y] (fun v => ∃ a c, v = .tup [.int .i64 a, .int .i64 c]) := by
  refine ep_of_body hG0 Tryd.func46 rfl (by kernel_rfl) (by simp [Tryd.ntmps46]) (by simp [inL, inR]) (by rintro _ ⟨_, _, rfl⟩; rfl) ?_
  simp only [Tryd.ntmps46, enterF, Nat.reduceAdd]
  have hn : n = 0 ∨ n = 1 ∨ n = 2 ∨ n = 3 ∨ n = 4 ∨ n = 5 ∨ n = 6 ∨ n = 7 ∨ n = 8 ∨ n = 9 ∨ n = 10 ∨ n = 11 ∨ n = 12 ∨ n = 13 := by omega
  rcases hn with rfl | rfl | rfl | rfl | rfl | rfl | rfl | rfl | rfl | rfl | rfl | rfl | rfl | rfl
  all_goals repeat' (first | with_reducible (first | refine v'1 fun _ _ => ?_ | refine v'2 ?_ | (first | refine v'3 ?_ | refine v'4 ?_ | refine v'5 fun _ _ _ _ => ?_ | refine v'6 (fun hg => ?_) (fun hg => ?_) <;> try simp only [hg]) <;> simp only [wS, simprocAttr, ev_g0, gOps, if_false, if_true] | (first | refine v's ?_ | refine v'e ?_ | refine v'r ?_) <;> try simp only [wE, simprocAttr] | refine v'8 ?_ | refine v'9 ?_) | (refine eg_ep hG0 (wrap_ex _) ?_; rintro _ ⟨_, rfl⟩; simp only [wS, simprocAttr, ev_g0, gOps, if_false, if_true]) | (refine eg_ep hG0 (op1_ex _ _) ?_; rintro _ ⟨_, rfl⟩; simp only [wS, simprocAttr, ev_g0, gOps, if_false, if_true]) | (refine eg_ep hG0 (op2_ex _ _) ?_; rintro _ ⟨_, rfl⟩; simp only [wS, simprocAttr, ev_g0, gOps, if_false, if_true]) | (refine eg_ep hG0 (op3_ex _ _) ?_; rintro _ ⟨_, rfl⟩; simp only [wS, simprocAttr, ev_g0, gOps, if_false, if_true]) | (refine eg_ep hG0 (op6_ex _ _) ?_; rintro _ ⟨_, rfl⟩; simp only [wS, simprocAttr, ev_g0, gOps, if_false, if_true]) | (refine eg_ep hG0 (op7_ex _ _) ?_; rintro _ ⟨_, rfl⟩; simp only [wS, simprocAttr, ev_g0, gOps, if_false, if_true]) | (refine eg_ep hG0 (op8_ex _ _) ?_; rintro _ ⟨_, rfl⟩; simp only [wS, simprocAttr, ev_g0, gOps, if_false, if_true]) | (refine eg_ep hG0 (op9_ex _ _) ?_; rintro _ ⟨_, rfl⟩; simp only [wS, simprocAttr, ev_g0, gOps, if_false, if_true]) | (refine eg_ep hG0 (op10_ex _ _) ?_; rintro _ ⟨_, rfl⟩; simp only [wS, simprocAttr, ev_g0, gOps, if_false, if_true]) | (refine eg_ep hG0 (op11_ex _ _) ?_; rintro _ ⟨_, rfl⟩; simp only [wS, simprocAttr, ev_g0, gOps, if_false, if_true]) | (refine eg_ep hG0 (op12_ex _ _) ?_; rintro _ ⟨_, rfl⟩; simp only [wS, simprocAttr, ev_g0, gOps, if_false, if_true]) | (refine eg_ep hG0 (op13_ex _ _) ?_; rintro _ ⟨_, rfl⟩; simp only [wS, simprocAttr, ev_g0, gOps, if_false, if_true]) | (refine eg_ep hG0 (op14_ex _ _) ?_; rintro _ ⟨_, rfl⟩; simp only [wS, simprocAttr, ev_g0, gOps, if_false, if_true]) | (refine eg_ep hG0 (op4_ex _ _ (ne_of_beq (by assumption))) ?_; rintro _ ⟨_, rfl⟩; simp only [wS, simprocAttr, ev_g0, gOps, if_false, if_true]) | (refine eg_ep hG0 (op5_ex _ _ (ne_of_beq (by assumption))) ?_; rintro _ ⟨_, rfl⟩; simp only [wS, simprocAttr, ev_g0, gOps, if_false, if_true]) | with_reducible refine eg_split (fun _ => ?_) (fun _ => ?_))
  all_goals refine eg_ret2 rfl (EG.of _ ⟨_, _, rfl⟩ rfl)
theorem op_ex' (n x y : Int) (h : 0 ≤ n ∧ n < 14) : ∃ p : Int × Int, Pure Tryd.prog G0 46 [.int .i64 n, .int .i64 x, .int .i64 y] (.tup [.int .i64 p.1, .int .i64 p.2]) := by
  obtain ⟨_, ⟨a, c, rfl⟩, hp⟩ := op_ex n x y h.1 h.2
  exact ⟨(a, c), hp⟩
noncomputable def opR (n x y : Int) : Int × Int := if h : 0 ≤ n ∧ n < 14 then (op_ex' n x y h).choose else (0, 0)
noncomputable def oV (n x y : Int) : Int := (opR n x y).1
noncomputable def oC (n x y : Int) : Int := (opR n x y).2
theorem op_46 (n x y : Int) (h1 : 0 ≤ n) (h2 : n < 14) : Pure Tryd.prog G0 46 [.int .i64 n, .int .i64 x, .int .i64 y] (.tup [.int .i64 (oV n x y), .int .i64 (oC n x y)]) := by
  have e : opR n x y = (op_ex' n x y ⟨h1, h2⟩).choose := dif_pos ⟨h1, h2⟩
  rw [oV, oC, e]
  exact (op_ex' n x y ⟨h1, h2⟩).choose_spec
theorem truth_47 (n : Int) (h0 : 0 ≤ n) (h1 : n < 14) : Pure Tryd.prog G0 47 [.int .i64 n] (.bool (decide (10 ≤ n))) := by
  have hn : n = 0 ∨ n = 1 ∨ n = 2 ∨ n = 3 ∨ n = 4 ∨ n = 5 ∨ n = 6 ∨ n = 7 ∨ n = 8 ∨ n = 9 ∨ n = 10 ∨ n = 11 ∨ n = 12 ∨ n = 13 := by omega
  rcases hn with rfl | rfl | rfl | rfl | rfl | rfl | rfl | rfl | rfl | rfl | rfl | rfl | rfl | rfl
  all_goals exact pure_of_call 60 60 _ [] no_table hG0 (by kernel_rfl) (by kernel_rfl) (by kernel_rfl)
end Go.Proofs.YtijakngaipdncaaDoor
