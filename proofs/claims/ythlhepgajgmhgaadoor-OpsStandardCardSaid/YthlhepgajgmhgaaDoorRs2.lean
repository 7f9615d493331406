import Derived.Test.YthlhepgajgmhgaaDoorRs0
set_option maxRecDepth 100000
set_option linter.unusedVariables false
namespace Go.Proofs.YthlhepgajgmhgaaDoor
open Go.AM
theorem sitesCk_s2 : ckO (roundsX (sitesCk_X (loopC (sitesCk_C.drop 5))) 3 ⟨mkF sitesCk_l1, sitesCk_h1⟩) sitesCk_l2 sitesCk_h2 = true := by kernel_rfl
end Go.Proofs.YthlhepgajgmhgaaDoor
