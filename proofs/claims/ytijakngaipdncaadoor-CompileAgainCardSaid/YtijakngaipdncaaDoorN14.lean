import Derived.Test.YtijakngaipdncaaDoorN13
set_option linter.unusedVariables false
set_option linter.unusedSimpArgs false
namespace Go.Proofs.YtijakngaipdncaaDoor
open Go.AM
attribute [local irreducible] AWp rgnS callR callV effR valR guardR stepR nextR
theorem prog_ok (L : List Int) (hL : ∀ x ∈ L, Small64 x) : EP Tryd.prog G0 4 [encI L] (VN 14) := by
  refine ep_of_body hG0 Tryd.func4 rfl (by kernel_rfl) (by simp [Tryd.ntmps4]) (by simp [inL, tree_encI]) (fun _ => VN.tree) ?_
  simp only [Tryd.ntmps4, enterF, Nat.reduceAdd]
  repeat' (first | with_reducible (first | refine v'1 fun _ _ => ?_ | refine v'2 ?_ | (first | refine v'3 ?_ | refine v'4 ?_ | refine v'5 fun _ _ _ _ => ?_ | refine v'6 (fun hg => ?_) (fun hg => ?_) <;> try simp only [hg]) <;> simp only [wS, simprocAttr] | (first | refine v's ?_ | refine v'e ?_ | refine v'r ?_) <;> try simp only [wE, simprocAttr] | refine v'8 ?_ | refine v'9 ?_))
  refine eg_tree hG0 (at_22 L _ 9 hL (by decide)) ?_
  simp only [wS, simprocAttr]
  repeat' (first | with_reducible (first | refine v'1 fun _ _ => ?_ | refine v'2 ?_ | (first | refine v'3 ?_ | refine v'4 ?_ | refine v'5 fun _ _ _ _ => ?_ | refine v'6 (fun hg => ?_) (fun hg => ?_) <;> try simp only [hg]) <;> simp only [wS, simprocAttr] | (first | refine v's ?_ | refine v'e ?_ | refine v'r ?_) <;> try simp only [wE, simprocAttr] | refine v'8 ?_ | refine v'9 ?_))
  refine eg_ep hG0 (made_ok L hL _) ?_
  rintro v ⟨c, rfl, hc⟩
  have hv : VN 14 (.agg c) := ⟨c, rfl, hc⟩
  cases hc with
  | mk k n m b es hl hh =>
  simp only [wS, simprocAttr]
  repeat' (first | with_reducible (first | refine v'1 fun _ _ => ?_ | refine v'2 ?_ | (first | refine v'3 ?_ | refine v'4 ?_ | refine v'5 fun _ _ _ _ => ?_ | refine v'6 (fun hg => ?_) (fun hg => ?_) <;> try simp only [hg]) <;> simp only [wS, simprocAttr] | (first | refine v's ?_ | refine v'e ?_ | refine v'r ?_) <;> try simp only [wE, simprocAttr] | refine v'8 ?_ | refine v'9 ?_))
  refine eg_retC (v := ?rv) rfl ?hl ?_
  case hl => simp only [wS, simprocAttr]; exact rfl
  exact EG.of _ (VN.wk hv) rfl
end Go.Proofs.YtijakngaipdncaaDoor
