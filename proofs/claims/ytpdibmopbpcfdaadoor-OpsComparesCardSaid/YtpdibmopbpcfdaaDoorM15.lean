import Derived.Test.YtpdibmopbpcfdaaDoorM11
import Derived.Test.YtpdibmopbpcfdaaDoorM12
import Derived.Test.YtpdibmopbpcfdaaDoorM13
import Derived.Test.YtpdibmopbpcfdaaDoorM14
set_option linter.unusedVariables false
set_option linter.unusedSimpArgs false
namespace Go.Proofs.YtpdibmopbpcfdaaDoor
open Go.AM

theorem stmt_ok {x : MX} (hx : x.ok) : ∀ (d : Nat) (depth : Int), depth ≤ d → -9223372036854775806 < depth → depth ≤ 9223372036854775807 → MC x 62 [.int .i64 depth] (VN (5 + 2 * d))
  | 0, depth, h, h1, h2 => stmt_step (by omega) hx depth (fun kd dd hd => expr_ok hx 3 kd dd (by omega) (by omega) (by omega)) fun h3 => by omega
  | d + 1, depth, h, h1, h2 => stmt_step (by omega) hx depth (fun kd dd hd => expr_ok hx 3 kd dd (by omega) (by omega) (by omega)) fun h3 => (nested_step (D := 5 + 2 * d + 1) (by omega) hx depth h1 h2 (expr_ok hx 2 1 2 (by decide) (by decide) (by decide))
      (fun most m1 m2 => block_step hx (depth - 1) most m1 m2 (stmt_ok hx d (depth - 1) (by omega) (by omega) (by omega))) fun v => loop_step (by omega) hx v depth h1 h2 (stmt_ok hx d (depth - 1) (by omega) (by omega) (by omega))).imp fun v hv => hv.up (by omega)
theorem block_ok {x : MX} (hx : x.ok) : MC x 48 [.int .i64 3, .int .i64 4] (VN 12) := block_step hx 3 4 (by decide) (by decide) (stmt_ok hx 3 3 (by decide) (by decide) (by decide))

end Go.Proofs.YtpdibmopbpcfdaaDoor
