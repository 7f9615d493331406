import Derived.Test.YtijakngaipdncaaDoorN5
import Derived.Test.YtijakngaipdncaaDoorN8
set_option linter.unusedVariables false
set_option linter.unusedSimpArgs false
namespace Go.Proofs.YtijakngaipdncaaDoor
open Go.AM
attribute [local irreducible] AWp rgnS callR callV effR valR guardR stepR nextR
theorem stmt_ok {x : MX} (hx : x.ok) : ∀ (d : Nat) (depth : Int), depth ≤ d → -9223372036854775806 < depth → depth ≤ 9223372036854775807 → MC x 41 [.int .i64 depth] (VN (5 + 2 * d)) := by
  have hE : ∀ kd dd : Int, (dd = 1 ∨ dd = 2 ∨ dd = 3 ∨ dd = 0) → MC x 58 [.int .i64 kd, .int .i64 dd] (VN 4) := fun kd dd hdd => expr_ok hx 3 kd dd (by omega) (by omega) (by omega)
  have hE3 : MC x 58 [.int .i64 1, .int .i64 2] (VN 3) := expr_ok hx 2 1 2 (by decide) (by decide) (by decide)
  have hC : ∀ kd dd : Int, (dd = 1 ∨ dd = 2) → MC x 57 [.int .i64 kd, .int .i64 dd] (VN 5) := fun kd dd hdd => call_ok (D := 4) hx kd dd (by omega) (by omega) fun k => hE k (dd - 1) (by omega)
  intro d
  induction d with
  | zero => exact fun depth h h1 h2 => stmt_step (by decide) hx depth hE hC fun h3 => by omega
  | succ d ih =>
    intro depth h h1 h2
    refine stmt_step (by omega) hx depth hE hC fun h3 => ?_
    have hS := ih (depth - 1) (by omega) (by omega) (by omega)
    exact nested_step (D := 5 + 2 * d + 1) (by omega) hx depth h1 h2 hE3 (fun most h4 h5 => block_step hx (depth - 1) most h4 h5 hS) fun v => loop_step (by omega) hx v depth h1 h2 hS
theorem block_ok {x : MX} (hx : x.ok) : MC x 31 [.int .i64 3, .int .i64 4] (VN 12) := block_step hx 3 4 (by decide) (by decide) (stmt_ok hx 3 3 (by decide) (by decide) (by decide))
end Go.Proofs.YtijakngaipdncaaDoor
