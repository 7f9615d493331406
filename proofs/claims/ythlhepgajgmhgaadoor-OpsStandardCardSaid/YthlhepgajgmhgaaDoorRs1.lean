import Derived.Test.YthlhepgajgmhgaaDoorRs0
set_option maxRecDepth 100000
set_option linter.unusedVariables false
namespace Go.Proofs.YthlhepgajgmhgaaDoor
open Go.AM
theorem sitesCk_s1 : ckO (roundsX (sitesCk_X (loopC (sitesCk_C.drop 5))) 3 ⟨mkF sitesCk_l0, sitesCk_h0⟩) sitesCk_l1 sitesCk_h1 = true := by kernel_rfl
end Go.Proofs.YthlhepgajgmhgaaDoor
