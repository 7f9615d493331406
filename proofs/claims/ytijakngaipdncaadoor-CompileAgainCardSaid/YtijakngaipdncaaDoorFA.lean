import Derived.Test.YtijakngaipdncaaDoorAH
import Derived.Test.YtijakngaipdncaaDoorG
set_option linter.unusedVariables false
set_option linter.unusedSimpArgs false
namespace Go.Proofs.YtijakngaipdncaaDoor
open Go.AM
attribute [local irreducible] AWp rgnS callR callV effR valR guardR stepR nextR
set_option maxRecDepth 100000
theorem u64_nn (z : Int) : 0 ≤ IntKind.u64.wrap z := by
  simp only [IntKind.wrap]
  split
  · rename_i h; cases h
  · exact Int.emod_nonneg _ (by decide)
theorem wrap_ex (a : Int) : EP Tryd.prog G0 61 [.int .i64 a] (fun v => ∃ z, v = .int .i64 z) := by
  have hb : True := trivial
  refine ep_of_body hG0 Tryd.func61 rfl (by kernel_rfl) (by simp [Tryd.ntmps61]) (by simp [inL, inR]) (by rintro _ ⟨_, rfl⟩; rfl) ?_
  simp only [Tryd.ntmps61, enterF, Nat.reduceAdd]
  repeat' (first | with_reducible (first | refine v'1 fun _ _ => ?_ | refine v'2 ?_ | (first | refine v'3 ?_ | refine v'4 ?_ | refine v'5 fun _ _ _ _ => ?_ | refine v'6 (fun hg => ?_) (fun hg => ?_) <;> try simp only [hg]) <;> simp only [wS, simprocAttr, hb, if_false, if_true] | (first | refine v's ?_ | refine v'e ?_ | refine v'r ?_) <;> try simp only [wE, simprocAttr] | refine v'8 ?_ | refine v'9 ?_) | with_reducible refine eg_split (fun _ => ?_) (fun _ => ?_))
  all_goals refine eg_ret1 rfl (EG.of _ ⟨_, rfl⟩ rfl)
theorem bits_ex (a : Int) : EP Tryd.prog G0 114 [.int .i64 a] (fun v => ∃ z, v = .int .i64 z) := by
  have hb : True := trivial
  refine ep_of_body hG0 Tryd.func114 rfl (by kernel_rfl) (by simp [Tryd.ntmps114]) (by simp [inL, inR]) (by rintro _ ⟨_, rfl⟩; rfl) ?_
  simp only [Tryd.ntmps114, enterF, Nat.reduceAdd]
  repeat' (first | with_reducible (first | refine v'1 fun _ _ => ?_ | refine v'2 ?_ | (first | refine v'3 ?_ | refine v'4 ?_ | refine v'5 fun _ _ _ _ => ?_ | refine v'6 (fun hg => ?_) (fun hg => ?_) <;> try simp only [hg]) <;> simp only [wS, simprocAttr, hb, if_false, if_true] | (first | refine v's ?_ | refine v'e ?_ | refine v'r ?_) <;> try simp only [wE, simprocAttr] | refine v'8 ?_ | refine v'9 ?_) | with_reducible refine eg_split (fun _ => ?_) (fun _ => ?_))
  all_goals refine eg_ret1 rfl (EG.of _ ⟨_, rfl⟩ rfl)
theorem number_ex (a : Bool) : EP Tryd.prog G0 110 [.bool a] (fun v => ∃ z, v = .int .i64 z) := by
  have hb : True := trivial
  refine ep_of_body hG0 Tryd.func110 rfl (by kernel_rfl) (by simp [Tryd.ntmps110]) (by simp [inL, inR]) (by rintro _ ⟨_, rfl⟩; rfl) ?_
  simp only [Tryd.ntmps110, enterF, Nat.reduceAdd]
  repeat' (first | with_reducible (first | refine v'1 fun _ _ => ?_ | refine v'2 ?_ | (first | refine v'3 ?_ | refine v'4 ?_ | refine v'5 fun _ _ _ _ => ?_ | refine v'6 (fun hg => ?_) (fun hg => ?_) <;> try simp only [hg]) <;> simp only [wS, simprocAttr, hb, if_false, if_true] | (first | refine v's ?_ | refine v'e ?_ | refine v'r ?_) <;> try simp only [wE, simprocAttr] | refine v'8 ?_ | refine v'9 ?_) | with_reducible refine eg_split (fun _ => ?_) (fun _ => ?_))
  all_goals refine eg_ret1 rfl (EG.of _ ⟨_, rfl⟩ rfl)
theorem op1_ex (a b : Int) : EP Tryd.prog G0 98 [.int .i64 a, .int .i64 b] (fun v => ∃ z, v = .int .i64 z) := by
  have hb : True := trivial
  refine ep_of_body hG0 Tryd.func98 rfl (by kernel_rfl) (by simp [Tryd.ntmps98]) (by simp [inL, inR]) (by rintro _ ⟨_, rfl⟩; rfl) ?_
  simp only [Tryd.ntmps98, enterF, Nat.reduceAdd]
  repeat' (first | with_reducible (first | refine v'1 fun _ _ => ?_ | refine v'2 ?_ | (first | refine v'3 ?_ | refine v'4 ?_ | refine v'5 fun _ _ _ _ => ?_ | refine v'6 (fun hg => ?_) (fun hg => ?_) <;> try simp only [hg]) <;> simp only [wS, simprocAttr, hb, if_false, if_true] | (first | refine v's ?_ | refine v'e ?_ | refine v'r ?_) <;> try simp only [wE, simprocAttr] | refine v'8 ?_ | refine v'9 ?_) | (refine eg_ep hG0 (number_ex _) ?_; rintro _ ⟨_, rfl⟩; simp only [wS, simprocAttr, hb, if_false, if_true]) | with_reducible refine eg_split (fun _ => ?_) (fun _ => ?_))
  all_goals refine eg_ret1 rfl (EG.of _ ⟨_, rfl⟩ rfl)
theorem op2_ex (a b : Int) : EP Tryd.prog G0 99 [.int .i64 a, .int .i64 b] (fun v => ∃ z, v = .int .i64 z) := by
  have hb : True := trivial
  refine ep_of_body hG0 Tryd.func99 rfl (by kernel_rfl) (by simp [Tryd.ntmps99]) (by simp [inL, inR]) (by rintro _ ⟨_, rfl⟩; rfl) ?_
  simp only [Tryd.ntmps99, enterF, Nat.reduceAdd]
  repeat' (first | with_reducible (first | refine v'1 fun _ _ => ?_ | refine v'2 ?_ | (first | refine v'3 ?_ | refine v'4 ?_ | refine v'5 fun _ _ _ _ => ?_ | refine v'6 (fun hg => ?_) (fun hg => ?_) <;> try simp only [hg]) <;> simp only [wS, simprocAttr, hb, if_false, if_true] | (first | refine v's ?_ | refine v'e ?_ | refine v'r ?_) <;> try simp only [wE, simprocAttr] | refine v'8 ?_ | refine v'9 ?_) | (refine eg_ep hG0 (number_ex _) ?_; rintro _ ⟨_, rfl⟩; simp only [wS, simprocAttr, hb, if_false, if_true]) | with_reducible refine eg_split (fun _ => ?_) (fun _ => ?_))
  all_goals refine eg_ret1 rfl (EG.of _ ⟨_, rfl⟩ rfl)
theorem op3_ex (a b : Int) : EP Tryd.prog G0 100 [.int .i64 a, .int .i64 b] (fun v => ∃ z, v = .int .i64 z) := by
  have hb : True := trivial
  refine ep_of_body hG0 Tryd.func100 rfl (by kernel_rfl) (by simp [Tryd.ntmps100]) (by simp [inL, inR]) (by rintro _ ⟨_, rfl⟩; rfl) ?_
  simp only [Tryd.ntmps100, enterF, Nat.reduceAdd]
  repeat' (first | with_reducible (first | refine v'1 fun _ _ => ?_ | refine v'2 ?_ | (first | refine v'3 ?_ | refine v'4 ?_ | refine v'5 fun _ _ _ _ => ?_ | refine v'6 (fun hg => ?_) (fun hg => ?_) <;> try simp only [hg]) <;> simp only [wS, simprocAttr, hb, if_false, if_true] | (first | refine v's ?_ | refine v'e ?_ | refine v'r ?_) <;> try simp only [wE, simprocAttr] | refine v'8 ?_ | refine v'9 ?_) | (refine eg_ep hG0 (number_ex _) ?_; rintro _ ⟨_, rfl⟩; simp only [wS, simprocAttr, hb, if_false, if_true]) | with_reducible refine eg_split (fun _ => ?_) (fun _ => ?_))
  all_goals refine eg_ret1 rfl (EG.of _ ⟨_, rfl⟩ rfl)
theorem op4_ex (a b : Int) (h0 : b ≠ 0) : EP Tryd.prog G0 101 [.int .i64 a, .int .i64 b] (fun v => ∃ z, v = .int .i64 z) := by
  have hb : (b = 0) = False := eq_false h0
  refine ep_of_body hG0 Tryd.func101 rfl (by kernel_rfl) (by simp [Tryd.ntmps101]) (by simp [inL, inR]) (by rintro _ ⟨_, rfl⟩; rfl) ?_
  simp only [Tryd.ntmps101, enterF, Nat.reduceAdd]
  repeat' (first | with_reducible (first | refine v'1 fun _ _ => ?_ | refine v'2 ?_ | (first | refine v'3 ?_ | refine v'4 ?_ | refine v'5 fun _ _ _ _ => ?_ | refine v'6 (fun hg => ?_) (fun hg => ?_) <;> try simp only [hg]) <;> simp only [wS, simprocAttr, hb, if_false, if_true] | (first | refine v's ?_ | refine v'e ?_ | refine v'r ?_) <;> try simp only [wE, simprocAttr] | refine v'8 ?_ | refine v'9 ?_) | with_reducible refine eg_split (fun _ => ?_) (fun _ => ?_))
  all_goals refine eg_ret1 rfl (EG.of _ ⟨_, rfl⟩ rfl)
theorem op5_ex (a b : Int) (h0 : b ≠ 0) : EP Tryd.prog G0 102 [.int .i64 a, .int .i64 b] (fun v => ∃ z, v = .int .i64 z) := by
  have hb : (b = 0) = False := eq_false h0
  refine ep_of_body hG0 Tryd.func102 rfl (by kernel_rfl) (by simp [Tryd.ntmps102]) (by simp [inL, inR]) (by rintro _ ⟨_, rfl⟩; rfl) ?_
  simp only [Tryd.ntmps102, enterF, Nat.reduceAdd]
  repeat' (first | with_reducible (first | refine v'1 fun _ _ => ?_ | refine v'2 ?_ | (first | refine v'3 ?_ | refine v'4 ?_ | refine v'5 fun _ _ _ _ => ?_ | refine v'6 (fun hg => ?_) (fun hg => ?_) <;> try simp only [hg]) <;> simp only [wS, simprocAttr, hb, if_false, if_true] | (first | refine v's ?_ | refine v'e ?_ | refine v'r ?_) <;> try simp only [wE, simprocAttr] | refine v'8 ?_ | refine v'9 ?_) | with_reducible refine eg_split (fun _ => ?_) (fun _ => ?_))
  all_goals refine eg_ret1 rfl (EG.of _ ⟨_, rfl⟩ rfl)
theorem op6_ex (a b : Int) : EP Tryd.prog G0 103 [.int .i64 a, .int .i64 b] (fun v => ∃ z, v = .int .i64 z) := by
  have hb : True := trivial
  refine ep_of_body hG0 Tryd.func103 rfl (by kernel_rfl) (by simp [Tryd.ntmps103]) (by simp [inL, inR]) (by rintro _ ⟨_, rfl⟩; rfl) ?_
  simp only [Tryd.ntmps103, enterF, Nat.reduceAdd]
  repeat' (first | with_reducible (first | refine v'1 fun _ _ => ?_ | refine v'2 ?_ | (first | refine v'3 ?_ | refine v'4 ?_ | refine v'5 fun _ _ _ _ => ?_ | refine v'6 (fun hg => ?_) (fun hg => ?_) <;> try simp only [hg]) <;> simp only [wS, simprocAttr, hb, if_false, if_true] | (first | refine v's ?_ | refine v'e ?_ | refine v'r ?_) <;> try simp only [wE, simprocAttr] | refine v'8 ?_ | refine v'9 ?_) | (refine eg_ep hG0 (number_ex _) ?_; rintro _ ⟨_, rfl⟩; simp only [wS, simprocAttr, hb, if_false, if_true]) | with_reducible refine eg_split (fun _ => ?_) (fun _ => ?_))
  all_goals refine eg_ret1 rfl (EG.of _ ⟨_, rfl⟩ rfl)
theorem op7_ex (a b : Int) : EP Tryd.prog G0 104 [.int .i64 a, .int .i64 b] (fun v => ∃ z, v = .int .i64 z) := by
  have hb : True := trivial
  refine ep_of_body hG0 Tryd.func104 rfl (by kernel_rfl) (by simp [Tryd.ntmps104]) (by simp [inL, inR]) (by rintro _ ⟨_, rfl⟩; rfl) ?_
  simp only [Tryd.ntmps104, enterF, Nat.reduceAdd]
  repeat' (first | with_reducible (first | refine v'1 fun _ _ => ?_ | refine v'2 ?_ | (first | refine v'3 ?_ | refine v'4 ?_ | refine v'5 fun _ _ _ _ => ?_ | refine v'6 (fun hg => ?_) (fun hg => ?_) <;> try simp only [hg]) <;> simp only [wS, simprocAttr, hb, if_false, if_true] | (first | refine v's ?_ | refine v'e ?_ | refine v'r ?_) <;> try simp only [wE, simprocAttr] | refine v'8 ?_ | refine v'9 ?_) | (refine eg_ep hG0 (number_ex _) ?_; rintro _ ⟨_, rfl⟩; simp only [wS, simprocAttr, hb, if_false, if_true]) | with_reducible refine eg_split (fun _ => ?_) (fun _ => ?_))
  all_goals refine eg_ret1 rfl (EG.of _ ⟨_, rfl⟩ rfl)
theorem op8_ex (a b : Int) : EP Tryd.prog G0 105 [.int .i64 a, .int .i64 b] (fun v => ∃ z, v = .int .i64 z) := by
  have hb : True := trivial
  refine ep_of_body hG0 Tryd.func105 rfl (by kernel_rfl) (by simp [Tryd.ntmps105]) (by simp [inL, inR]) (by rintro _ ⟨_, rfl⟩; rfl) ?_
  simp only [Tryd.ntmps105, enterF, Nat.reduceAdd]
  repeat' (first | with_reducible (first | refine v'1 fun _ _ => ?_ | refine v'2 ?_ | (first | refine v'3 ?_ | refine v'4 ?_ | refine v'5 fun _ _ _ _ => ?_ | refine v'6 (fun hg => ?_) (fun hg => ?_) <;> try simp only [hg]) <;> simp only [wS, simprocAttr, hb, if_false, if_true] | (first | refine v's ?_ | refine v'e ?_ | refine v'r ?_) <;> try simp only [wE, simprocAttr] | refine v'8 ?_ | refine v'9 ?_) | (refine eg_ep hG0 (number_ex _) ?_; rintro _ ⟨_, rfl⟩; simp only [wS, simprocAttr, hb, if_false, if_true]) | with_reducible refine eg_split (fun _ => ?_) (fun _ => ?_))
  all_goals refine eg_ret1 rfl (EG.of _ ⟨_, rfl⟩ rfl)
theorem op11_ex (a b : Int) : EP Tryd.prog G0 109 [.int .i64 a, .int .i64 b] (fun v => ∃ z, v = .int .i64 z) := by
  have hb : True := trivial
  refine ep_of_body hG0 Tryd.func109 rfl (by kernel_rfl) (by simp [Tryd.ntmps109]) (by simp [inL, inR]) (by rintro _ ⟨_, rfl⟩; rfl) ?_
  simp only [Tryd.ntmps109, enterF, Nat.reduceAdd]
  repeat' (first | with_reducible (first | refine v'1 fun _ _ => ?_ | refine v'2 ?_ | (first | refine v'3 ?_ | refine v'4 ?_ | refine v'5 fun _ _ _ _ => ?_ | refine v'6 (fun hg => ?_) (fun hg => ?_) <;> try simp only [hg]) <;> simp only [wS, simprocAttr, hb, if_false, if_true] | (first | refine v's ?_ | refine v'e ?_ | refine v'r ?_) <;> try simp only [wE, simprocAttr] | refine v'8 ?_ | refine v'9 ?_) | (refine eg_ep hG0 (number_ex _) ?_; rintro _ ⟨_, rfl⟩; simp only [wS, simprocAttr, hb, if_false, if_true]) | with_reducible refine eg_split (fun _ => ?_) (fun _ => ?_))
  all_goals refine eg_ret1 rfl (EG.of _ ⟨_, rfl⟩ rfl)
theorem op12_ex (a b : Int) : EP Tryd.prog G0 111 [.int .i64 a, .int .i64 b] (fun v => ∃ z, v = .int .i64 z) := by
  have hb : True := trivial
  refine ep_of_body hG0 Tryd.func111 rfl (by kernel_rfl) (by simp [Tryd.ntmps111]) (by simp [inL, inR]) (by rintro _ ⟨_, rfl⟩; rfl) ?_
  simp only [Tryd.ntmps111, enterF, Nat.reduceAdd]
  repeat' (first | with_reducible (first | refine v'1 fun _ _ => ?_ | refine v'2 ?_ | (first | refine v'3 ?_ | refine v'4 ?_ | refine v'5 fun _ _ _ _ => ?_ | refine v'6 (fun hg => ?_) (fun hg => ?_) <;> try simp only [hg]) <;> simp only [wS, simprocAttr, hb, if_false, if_true] | (first | refine v's ?_ | refine v'e ?_ | refine v'r ?_) <;> try simp only [wE, simprocAttr] | refine v'8 ?_ | refine v'9 ?_) | (refine eg_ep hG0 (number_ex _) ?_; rintro _ ⟨_, rfl⟩; simp only [wS, simprocAttr, hb, if_false, if_true]) | with_reducible refine eg_split (fun _ => ?_) (fun _ => ?_))
  all_goals refine eg_ret1 rfl (EG.of _ ⟨_, rfl⟩ rfl)
theorem op13_ex (a b : Int) : EP Tryd.prog G0 112 [.int .i64 a, .int .i64 b] (fun v => ∃ z, v = .int .i64 z) := by
  have hb : True := trivial
  refine ep_of_body hG0 Tryd.func112 rfl (by kernel_rfl) (by simp [Tryd.ntmps112]) (by simp [inL, inR]) (by rintro _ ⟨_, rfl⟩; rfl) ?_
  simp only [Tryd.ntmps112, enterF, Nat.reduceAdd]
  repeat' (first | with_reducible (first | refine v'1 fun _ _ => ?_ | refine v'2 ?_ | (first | refine v'3 ?_ | refine v'4 ?_ | refine v'5 fun _ _ _ _ => ?_ | refine v'6 (fun hg => ?_) (fun hg => ?_) <;> try simp only [hg]) <;> simp only [wS, simprocAttr, hb, if_false, if_true] | (first | refine v's ?_ | refine v'e ?_ | refine v'r ?_) <;> try simp only [wE, simprocAttr] | refine v'8 ?_ | refine v'9 ?_) | (refine eg_ep hG0 (number_ex _) ?_; rintro _ ⟨_, rfl⟩; simp only [wS, simprocAttr, hb, if_false, if_true]) | with_reducible refine eg_split (fun _ => ?_) (fun _ => ?_))
  all_goals refine eg_ret1 rfl (EG.of _ ⟨_, rfl⟩ rfl)
theorem op14_ex (a b : Int) : EP Tryd.prog G0 113 [.int .i64 a, .int .i64 b] (fun v => ∃ z, v = .int .i64 z) := by
  have hb : True := trivial
  refine ep_of_body hG0 Tryd.func113 rfl (by kernel_rfl) (by simp [Tryd.ntmps113]) (by simp [inL, inR]) (by rintro _ ⟨_, rfl⟩; rfl) ?_
  simp only [Tryd.ntmps113, enterF, Nat.reduceAdd]
  repeat' (first | with_reducible (first | refine v'1 fun _ _ => ?_ | refine v'2 ?_ | (first | refine v'3 ?_ | refine v'4 ?_ | refine v'5 fun _ _ _ _ => ?_ | refine v'6 (fun hg => ?_) (fun hg => ?_) <;> try simp only [hg]) <;> simp only [wS, simprocAttr, hb, if_false, if_true] | (first | refine v's ?_ | refine v'e ?_ | refine v'r ?_) <;> try simp only [wE, simprocAttr] | refine v'8 ?_ | refine v'9 ?_) | (refine eg_ep hG0 (number_ex _) ?_; rintro _ ⟨_, rfl⟩; simp only [wS, simprocAttr, hb, if_false, if_true]) | with_reducible refine eg_split (fun _ => ?_) (fun _ => ?_))
  all_goals refine eg_ret1 rfl (EG.of _ ⟨_, rfl⟩ rfl)
theorem shift_ex (a : Int) : EP Tryd.prog G0 107 [.int .i64 a] (fun v => ∃ z : Int, v = .int .u64 z ∧ 0 ≤ z) := by
  have hb : True := trivial
  refine ep_of_body hG0 Tryd.func107 rfl (by kernel_rfl) (by simp [Tryd.ntmps107]) (by simp [inL, inR]) (by rintro _ ⟨_, rfl, _⟩; rfl) ?_
  simp only [Tryd.ntmps107, enterF, Nat.reduceAdd]
  repeat' (first | with_reducible (first | refine v'1 fun _ _ => ?_ | refine v'2 ?_ | (first | refine v'3 ?_ | refine v'4 ?_ | refine v'5 fun _ _ _ _ => ?_ | refine v'6 (fun hg => ?_) (fun hg => ?_) <;> try simp only [hg]) <;> simp only [wS, simprocAttr, hb, if_false, if_true] | (first | refine v's ?_ | refine v'e ?_ | refine v'r ?_) <;> try simp only [wE, simprocAttr] | refine v'8 ?_ | refine v'9 ?_) | (refine eg_ep hG0 (bits_ex _) ?_; rintro _ ⟨_, rfl⟩; simp only [wS, simprocAttr, hb, if_false, if_true]) | with_reducible refine eg_split (fun _ => ?_) (fun _ => ?_))
  all_goals refine eg_ret1 rfl (EG.of _ ⟨_, rfl, u64_nn _⟩ rfl)
theorem op9_ex (a b : Int) : EP Tryd.prog G0 106 [.int .i64 a, .int .i64 b] (fun v => ∃ z, v = .int .i64 z) := by
  have hb : True := trivial
  refine ep_of_body hG0 Tryd.func106 rfl (by kernel_rfl) (by simp [Tryd.ntmps106]) (by simp [inL, inR]) (by rintro _ ⟨_, rfl⟩; rfl) ?_
  simp only [Tryd.ntmps106, enterF, Nat.reduceAdd]
  repeat' (first | with_reducible (first | refine v'1 fun _ _ => ?_ | refine v'2 ?_ | (first | refine v'3 ?_ | refine v'4 ?_ | refine v'5 fun _ _ _ _ => ?_ | refine v'6 (fun hg => ?_) (fun hg => ?_) <;> try simp only [hg]) <;> simp only [wS, simprocAttr, hb, if_false, if_true] | (first | refine v's ?_ | refine v'e ?_ | refine v'r ?_) <;> try simp only [wE, simprocAttr] | refine v'8 ?_ | refine v'9 ?_) | (refine eg_ep hG0 (shift_ex _) ?_; rintro _ ⟨z, rfl, hz⟩; replace hz : (z < 0) = False := eq_false (by omega); simp only [wS, simprocAttr, hb, hz, if_false, if_true]) | with_reducible refine eg_split (fun _ => ?_) (fun _ => ?_))
  all_goals refine eg_ret1 rfl (EG.of _ ⟨_, rfl⟩ rfl)
theorem op10_ex (a b : Int) : EP Tryd.prog G0 108 [.int .i64 a, .int .i64 b] (fun v => ∃ z, v = .int .i64 z) := by
  have hb : True := trivial
  refine ep_of_body hG0 Tryd.func108 rfl (by kernel_rfl) (by simp [Tryd.ntmps108]) (by simp [inL, inR]) (by rintro _ ⟨_, rfl⟩; rfl) ?_
  simp only [Tryd.ntmps108, enterF, Nat.reduceAdd]
  repeat' (first | with_reducible (first | refine v'1 fun _ _ => ?_ | refine v'2 ?_ | (first | refine v'3 ?_ | refine v'4 ?_ | refine v'5 fun _ _ _ _ => ?_ | refine v'6 (fun hg => ?_) (fun hg => ?_) <;> try simp only [hg]) <;> simp only [wS, simprocAttr, hb, if_false, if_true] | (first | refine v's ?_ | refine v'e ?_ | refine v'r ?_) <;> try simp only [wE, simprocAttr] | refine v'8 ?_ | refine v'9 ?_) | (refine eg_ep hG0 (shift_ex _) ?_; rintro _ ⟨z, rfl, hz⟩; replace hz : (z < 0) = False := eq_false (by omega); simp only [wS, simprocAttr, hb, hz, if_false, if_true]) | with_reducible refine eg_split (fun _ => ?_) (fun _ => ?_))
  all_goals refine eg_ret1 rfl (EG.of _ ⟨_, rfl⟩ rfl)
end Go.Proofs.YtijakngaipdncaaDoor
