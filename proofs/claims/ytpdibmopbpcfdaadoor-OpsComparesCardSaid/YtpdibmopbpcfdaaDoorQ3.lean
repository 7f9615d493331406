import Derived.Test.YtpdibmopbpcfdaaDoorM19
import Derived.Test.YtpdibmopbpcfdaaDoorQ2
import Derived.Test.YtpdibmopbpcfdaaDoorRl
set_option linter.unusedVariables false
set_option linter.unusedSimpArgs false
namespace Go.Proofs.YtpdibmopbpcfdaaDoor
open Go.AM

theorem opsCompares_law (a b c : List Int) (x y : Int) (l : List Int) (ha : a.length ≤ 4611686018427387904) (hb : b.length ≤ 4611686018427387904) (hc : c.length ≤ 4611686018427387904) (hl : ∀ x ∈ l, Small64 x) : AM.Pure Tryd.prog G0 3 [encI a, encI b, encI c, .int .i64 x, .int .i64 y, encI l] (.bool true) :=
  law_3 prog_ok r259 a b c x y l ha hb hc hl

end Go.Proofs.YtpdibmopbpcfdaaDoor
