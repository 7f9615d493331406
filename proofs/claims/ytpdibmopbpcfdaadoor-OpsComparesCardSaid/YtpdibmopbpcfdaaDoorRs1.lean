import Derived.Test.YtpdibmopbpcfdaaDoorRs0
set_option maxRecDepth 100000
set_option linter.unusedVariables false
namespace Go.Proofs.YtpdibmopbpcfdaaDoor
open Go.AM
theorem sitesCk_s1 : ckO (roundsX (sitesCk_X (loopC (sitesCk_C.drop 5))) 3 ⟨mkF sitesCk_l0, sitesCk_h0⟩) sitesCk_l1 sitesCk_h1 = true := by kernel_rfl
theorem sitesCk_s2 : ckO (roundsX (sitesCk_X (loopC (sitesCk_C.drop 5))) 3 ⟨mkF sitesCk_l1, sitesCk_h1⟩) sitesCk_l2 sitesCk_h2 = true := by kernel_rfl
theorem sitesCk_e : isRes Tryd.prog Tryd.f12 sitesCk_R (exXL sitesCk_X (sitesCk_C.drop 5) ⟨mkF sitesCk_l2, sitesCk_h2⟩) = true := by kernel_rfl
end Go.Proofs.YtpdibmopbpcfdaaDoor
