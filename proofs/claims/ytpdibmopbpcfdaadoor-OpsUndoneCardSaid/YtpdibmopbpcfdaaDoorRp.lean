import Derived.Test.YtpdibmopbpcfdaaDoorP6
import Derived.Test.YtpdibmopbpcfdaaDoorR0
set_option maxRecDepth 100000
set_option linter.unusedVariables false
namespace Go.Proofs.YtpdibmopbpcfdaaDoor
open Go.AM
def isNodeCells : List AV → Bool
  | [.int .i64 _, .int .i64 _, .int .i64 _, .sl _ _] => true
  | _ => false
def nodeB : Nat → List AV → Bool
  | 0, _ => false
  | D + 1, c => isNodeCells c && (decide ((kidsC c).length ≤ 6) && (kidsC c).all (nodeB D))
theorem nodeB_ok : ∀ {D : Nat} {c : List AV}, nodeB D c = true → NodeV D c
  | 0, c, h => by cases h
  | D + 1, c, h => by
    simp only [nodeB, Bool.and_eq_true, decide_eq_true_eq, List.all_eq_true] at h
    obtain ⟨h1, h2, h3⟩ := h
    unfold isNodeCells at h1
    split at h1
    · exact .mk (hd := Nat.lt_succ_self D) _ _ _ _ _ h2 fun e he => nodeB_ok (h3 e he)
    · cases h1
def condL : List AV := [.int .i64 17, .int .i64 0, .int .i64 0, .sl true [[.int .i64 9, .int .i64 10, .int .i64 0, .sl true [[.int .i64 9, .int .i64 0, .int .i64 0, .sl true [[.int .i64 6, .int .i64 0, .int .i64 0, .sl true []], [.int .i64 4, .int .i64 1, .int .i64 0, .sl true []]]], [.int .i64 4, .int .i64 2, .int .i64 0, .sl true []]]], [.int .i64 13, .int .i64 0, .int .i64 0, .sl true [[.int .i64 25, .int .i64 0, .int .i64 0, .sl true []]]], [.int .i64 13, .int .i64 0, .int .i64 0, .sl true []]]]
theorem condL_ok : NodeV 5 condL := nodeB_ok (by kernel_rfl)
end Go.Proofs.YtpdibmopbpcfdaaDoor
