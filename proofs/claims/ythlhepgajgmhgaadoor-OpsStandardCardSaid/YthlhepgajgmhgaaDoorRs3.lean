import Derived.Test.YthlhepgajgmhgaaDoorRs0
set_option maxRecDepth 100000
set_option linter.unusedVariables false
namespace Go.Proofs.YthlhepgajgmhgaaDoor
open Go.AM
theorem sitesCk_e : isRes Tryd.prog Tryd.f33 sitesCk_R (exXL sitesCk_X (sitesCk_C.drop 5) ⟨mkF sitesCk_l2, sitesCk_h2⟩) = true := by kernel_rfl
end Go.Proofs.YthlhepgajgmhgaaDoor
