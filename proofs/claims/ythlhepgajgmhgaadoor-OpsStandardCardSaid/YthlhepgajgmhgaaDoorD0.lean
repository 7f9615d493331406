import Derived.Test.YthlhepgajgmhgaaDoorAD
import Derived.Test.YthlhepgajgmhgaaDoorRows
import Derived.Test.YthlhepgajgmhgaaDoorW1
import Derived.ProofKit
import Derived.SizedLaws
import Derived.OpenShut
import Derived.LaidMore
import Derived.Lay
import Derived.Stop.Joined
set_option linter.unusedVariables false
set_option linter.unusedSimpArgs false
namespace Go.Proofs.YthlhepgajgmhgaaDoor
open Go.AM
open Go.ChangeShapes Go.WideShapes Go.ChangeAt Go.RowKit

set_option maxRecDepth 100000
theorem inv_laid {W : World} (h : laidMetH Tryd.prog Rows.opsStandardRow.laid W) : Inv G0 (E0 W) := inv_of_globs fun g cs hg => by
  match g, hg with
  | 0, hg =>
    cases hg
    exact glob_plain h (n := "scoria/ops.pairs") (List.mem_cons_of_mem _ (List.mem_cons_self ..)) (by kernel_rfl) (t := 36) (N := 6) (by kernel_rfl) (by kernel_rfl) (by kernel_rfl)
theorem own0 : ownKnob Tryd.prog.godebug = none := by kernel_rfl
theorem wf_small {n : Int} (h : (Lit.int .i64 n).wf = true) : Small64 n := by
  have h1 : IntKind.i64.min = -9223372036854775808 := rfl
  have h2 : IntKind.i64.max = 9223372036854775807 := rfl
  simp only [Lit.wf, Bool.and_eq_true, decide_eq_true_eq] at h
  unfold Small64
  omega

end Go.Proofs.YthlhepgajgmhgaaDoor
