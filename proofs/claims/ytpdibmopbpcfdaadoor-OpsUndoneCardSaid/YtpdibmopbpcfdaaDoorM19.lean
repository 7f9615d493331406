import Derived.Test.YtpdibmopbpcfdaaDoorM18
set_option linter.unusedVariables false
set_option linter.unusedSimpArgs false
namespace Go.Proofs.YtpdibmopbpcfdaaDoor
open Go.AM
theorem prog_ok (L : List Int) (hL : ∀ x ∈ L, Small64 x) : EP Tryd.prog G0 8 [encI L] (VN 14) := by
  refine ep_of_body hG0 Tryd.func8 rfl (by kernel_rfl) (by simp [Tryd.ntmps8]) (by simp [inL, tree_encI]) (fun _ => VN.tree) ?_
  simp only [Tryd.ntmps8, enterF, Nat.reduceAdd]
  repeat' (first | refine v'1 fun _ _ => ?_ | refine v'2 ?_ | (first | refine v'3 ?_ | refine v'4 ?_ | refine v'5 fun _ _ _ _ => ?_ | (refine v'6 (fun hg => ?_) (fun hg => ?_) <;> try simp only [hg])) <;> simp only [wS, simprocAttr] | (refine v'7 ?_; try simp only [wE, simprocAttr]) | refine v'8 ?_ | refine v'9 ?_)
  refine eg_tree hG0 (at_22 L _ 9 hL (by decide)) ?_
  simp only [wS, simprocAttr]
  repeat' (first | refine v'1 fun _ _ => ?_ | refine v'2 ?_ | (first | refine v'3 ?_ | refine v'4 ?_ | refine v'5 fun _ _ _ _ => ?_ | (refine v'6 (fun hg => ?_) (fun hg => ?_) <;> try simp only [hg])) <;> simp only [wS, simprocAttr] | (refine v'7 ?_; try simp only [wE, simprocAttr]) | refine v'8 ?_ | refine v'9 ?_)
  refine eg_ep hG0 (made_ok L hL _) ?_
  rintro v ⟨c, rfl, hc⟩
  have hv : VN 14 (.agg c) := ⟨c, rfl, hc⟩
  cases hc with
  | mk k n m b es hl hh =>
  simp only [wS, simprocAttr]
  repeat' (first | refine v'1 fun _ _ => ?_ | refine v'2 ?_ | (first | refine v'3 ?_ | refine v'4 ?_ | refine v'5 fun _ _ _ _ => ?_ | (refine v'6 (fun hg => ?_) (fun hg => ?_) <;> try simp only [hg])) <;> simp only [wS, simprocAttr] | (refine v'7 ?_; try simp only [wE, simprocAttr]) | refine v'8 ?_ | refine v'9 ?_)
  refine eg_retC (v := ?rv) rfl ?hl ?_
  case hl => simp only [wS, simprocAttr]; exact rfl
  exact EG.of _ (VN.wk hv) rfl
theorem procs_ok (L : List Int) (hL : ∀ x ∈ L, Small64 x) : EP Tryd.prog G0 11 [encI L] (VN 14) := by
  refine ep_of_body hG0 Tryd.func11 rfl (by kernel_rfl) (by simp [Tryd.ntmps11]) (by simp [inL, tree_encI]) (fun _ => VN.tree) ?_
  simp only [Tryd.ntmps11, enterF, Nat.reduceAdd]
  repeat' (first | refine v'1 fun _ _ => ?_ | refine v'2 ?_ | (first | refine v'3 ?_ | refine v'4 ?_ | refine v'5 fun _ _ _ _ => ?_ | (refine v'6 (fun hg => ?_) (fun hg => ?_) <;> try simp only [hg])) <;> simp only [wS, simprocAttr] | (refine v'7 ?_; try simp only [wE, simprocAttr]) | refine v'8 ?_ | refine v'9 ?_)
  refine eg_ep hG0 (made_ok L hL _) ?_
  rintro v ⟨c, rfl, hc⟩
  have hv : VN 14 (.agg c) := ⟨c, rfl, hc⟩
  cases hc with
  | mk k n m b es hl hh =>
  simp only [wS, simprocAttr]
  repeat' (first | refine v'1 fun _ _ => ?_ | refine v'2 ?_ | (first | refine v'3 ?_ | refine v'4 ?_ | refine v'5 fun _ _ _ _ => ?_ | (refine v'6 (fun hg => ?_) (fun hg => ?_) <;> try simp only [hg])) <;> simp only [wS, simprocAttr] | (refine v'7 ?_; try simp only [wE, simprocAttr]) | refine v'8 ?_ | refine v'9 ?_)
  refine eg_retC (v := ?rv) rfl ?hl ?_
  case hl => simp only [wS, simprocAttr]; exact rfl
  exact EG.of _ (VN.wk hv) rfl
end Go.Proofs.YtpdibmopbpcfdaaDoor
