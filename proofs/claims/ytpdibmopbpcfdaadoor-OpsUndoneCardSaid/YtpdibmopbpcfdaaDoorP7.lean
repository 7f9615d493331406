import Derived.Test.YtpdibmopbpcfdaaDoorP6
set_option linter.unusedVariables false
set_option linter.unusedSimpArgs false
namespace Go.Proofs.YtpdibmopbpcfdaaDoor
open Go.AM
set_option maxRecDepth 100000
def cmpI (x y : Int) : Int := if x < y then -1 else if y < x then 1 else 0
theorem nan_42 (n : Int) : Pure Tryd.prog G0 42 [.int .i64 n] (.bool false) := by
  refine pure_of_body hG0 Tryd.func42 rfl (by kernel_rfl) (by simp [Tryd.ntmps42]) (by simp [inL, inR]) (by simp [inR]) ?_
  simp only [Tryd.ntmps42, enterF, Nat.reduceAdd]
  have e : (n == n) = true := by simp
  repeat' (first | refine u'1 fun _ _ => ?_ | refine u'2 ?_ | (first | refine u'3 ?_ | refine u'4 ?_ | refine u'5 fun _ _ _ _ => ?_ | (refine u'6 (fun hg => ?_) (fun hg => ?_) <;> try simp only [hg])) <;> simp only [wS, simprocAttr, e, bne] | (refine u'7 ?_; try simp only [wE, simprocAttr]) | refine u'8 ?_ | refine u'9 ?_)
  refine body_ret1 rfl ?_
  simp only [wS, simprocAttr, Bool.not_true]
theorem cmp_18 (x y : Int) : Pure Tryd.prog G0 18 [.int .i64 x, .int .i64 y] (.int .i64 (cmpI x y)) := by
  refine pure_of_body hG0 Tryd.func18 rfl (by kernel_rfl) (by simp [Tryd.ntmps18]) (by simp [inL, inR]) (by simp [inR]) ?_
  simp only [Tryd.ntmps18, enterF, Nat.reduceAdd]
  repeat' (first | refine u'1 fun _ _ => ?_ | refine u'2 ?_ | (first | refine u'3 ?_ | refine u'4 ?_ | refine u'5 fun _ _ _ _ => ?_ | (refine u'6 (fun hg => ?_) (fun hg => ?_) <;> try simp only [hg])) <;> simp only [wS, simprocAttr] | (refine u'7 ?_; try simp only [wE, simprocAttr]) | refine u'8 ?_ | refine u'9 ?_)
  refine callR_tree hG0 (nan_42 x) ?_
  simp only [wS, simprocAttr]
  repeat' (first | refine u'1 fun _ _ => ?_ | refine u'2 ?_ | (first | refine u'3 ?_ | refine u'4 ?_ | refine u'5 fun _ _ _ _ => ?_ | (refine u'6 (fun hg => ?_) (fun hg => ?_) <;> try simp only [hg])) <;> simp only [wS, simprocAttr] | (refine u'7 ?_; try simp only [wE, simprocAttr]) | refine u'8 ?_ | refine u'9 ?_)
  refine callR_tree hG0 (nan_42 y) ?_
  simp only [wS, simprocAttr]
  repeat' (first | refine u'1 fun _ _ => ?_ | refine u'2 ?_ | (first | refine u'3 ?_ | refine u'4 ?_ | refine u'5 fun _ _ _ _ => ?_ | (refine u'6 (fun hg => ?_) (fun hg => ?_) <;> try simp only [hg])) <;> simp only [wS, simprocAttr] | (refine u'7 ?_; try simp only [wE, simprocAttr]) | refine u'8 ?_ | refine u'9 ?_)
  refine ⟨fun h => ?_, fun h => ?_⟩
  · have hlt : x < y := by simpa using h
    repeat' (first | refine u'1 fun _ _ => ?_ | refine u'2 ?_ | (first | refine u'3 ?_ | refine u'4 ?_ | refine u'5 fun _ _ _ _ => ?_ | (refine u'6 (fun hg => ?_) (fun hg => ?_) <;> try simp only [hg])) <;> simp only [wS, simprocAttr] | (refine u'7 ?_; try simp only [wE, simprocAttr]) | refine u'8 ?_ | refine u'9 ?_)
    refine body_ret1 rfl ?_
    simp only [wS, simprocAttr]
    rw [cmpI, if_pos hlt]
  · have hlt : ¬ x < y := by simpa using h
    repeat' (first | refine u'1 fun _ _ => ?_ | refine u'2 ?_ | (first | refine u'3 ?_ | refine u'4 ?_ | refine u'5 fun _ _ _ _ => ?_ | (refine u'6 (fun hg => ?_) (fun hg => ?_) <;> try simp only [hg])) <;> simp only [wS, simprocAttr] | (refine u'7 ?_; try simp only [wE, simprocAttr]) | refine u'8 ?_ | refine u'9 ?_)
    refine ⟨fun h => ?_, fun h => ?_⟩
    · have hgt : y < x := by simpa using h
      repeat' (first | refine u'1 fun _ _ => ?_ | refine u'2 ?_ | (first | refine u'3 ?_ | refine u'4 ?_ | refine u'5 fun _ _ _ _ => ?_ | (refine u'6 (fun hg => ?_) (fun hg => ?_) <;> try simp only [hg])) <;> simp only [wS, simprocAttr] | (refine u'7 ?_; try simp only [wE, simprocAttr]) | refine u'8 ?_ | refine u'9 ?_)
      refine body_ret1 rfl ?_
      simp only [wS, simprocAttr]
      rw [cmpI, if_neg hlt, if_pos hgt]
    · have hgt : ¬ y < x := by simpa using h
      repeat' (first | refine u'1 fun _ _ => ?_ | refine u'2 ?_ | (first | refine u'3 ?_ | refine u'4 ?_ | refine u'5 fun _ _ _ _ => ?_ | (refine u'6 (fun hg => ?_) (fun hg => ?_) <;> try simp only [hg])) <;> simp only [wS, simprocAttr] | (refine u'7 ?_; try simp only [wE, simprocAttr]) | refine u'8 ?_ | refine u'9 ?_)
      refine body_ret1 rfl ?_
      simp only [wS, simprocAttr]
      rw [cmpI, if_neg hlt, if_neg hgt]
end Go.Proofs.YtpdibmopbpcfdaaDoor
