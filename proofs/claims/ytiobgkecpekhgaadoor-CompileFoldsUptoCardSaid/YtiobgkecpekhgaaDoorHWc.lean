import Derived.Test.YtiobgkecpekhgaaDoorHW
set_option linter.unusedVariables false
set_option linter.unusedSimpArgs false
namespace Go.Proofs.YtiobgkecpekhgaaDoor
open Go.AM
attribute [local irreducible] AWp rgnS callR callV effR valR guardR stepR nextR
set_option maxRecDepth 100000
theorem opW_9_m8 : opRow 56 9 (-8) words = true := by kernel_rfl
theorem opW_9_m7 : opRow 56 9 (-7) words = true := by kernel_rfl
theorem opW_9_m6 : opRow 56 9 (-6) words = true := by kernel_rfl
theorem opW_9_m5 : opRow 56 9 (-5) words = true := by kernel_rfl
theorem opW_9_m4 : opRow 56 9 (-4) words = true := by kernel_rfl
theorem opW_9_m3 : opRow 56 9 (-3) words = true := by kernel_rfl
theorem opW_9_m2 : opRow 56 9 (-2) words = true := by kernel_rfl
theorem opW_9_m1 : opRow 56 9 (-1) words = true := by kernel_rfl
theorem opW_9_p0 : opRow 56 9 (0) words = true := by kernel_rfl
theorem opW_9_p1 : opRow 56 9 (1) words = true := by kernel_rfl
theorem opW_9_p2 : opRow 56 9 (2) words = true := by kernel_rfl
theorem opW_9_p3 : opRow 56 9 (3) words = true := by kernel_rfl
theorem opW_9_p4 : opRow 56 9 (4) words = true := by kernel_rfl
theorem opW_9_p5 : opRow 56 9 (5) words = true := by kernel_rfl
theorem opW_9_p6 : opRow 56 9 (6) words = true := by kernel_rfl
theorem opW_9_p7 : opRow 56 9 (7) words = true := by kernel_rfl
theorem opW_9 : opAll 56 9 words = true := opAll_words opW_9_m8 opW_9_m7 opW_9_m6 opW_9_m5 opW_9_m4 opW_9_m3 opW_9_m2 opW_9_m1 opW_9_p0 opW_9_p1 opW_9_p2 opW_9_p3 opW_9_p4 opW_9_p5 opW_9_p6 opW_9_p7
theorem opW_10_m8 : opRow 56 10 (-8) words = true := by kernel_rfl
theorem opW_10_m7 : opRow 56 10 (-7) words = true := by kernel_rfl
theorem opW_10_m6 : opRow 56 10 (-6) words = true := by kernel_rfl
theorem opW_10_m5 : opRow 56 10 (-5) words = true := by kernel_rfl
theorem opW_10_m4 : opRow 56 10 (-4) words = true := by kernel_rfl
theorem opW_10_m3 : opRow 56 10 (-3) words = true := by kernel_rfl
theorem opW_10_m2 : opRow 56 10 (-2) words = true := by kernel_rfl
theorem opW_10_m1 : opRow 56 10 (-1) words = true := by kernel_rfl
theorem opW_10_p0 : opRow 56 10 (0) words = true := by kernel_rfl
theorem opW_10_p1 : opRow 56 10 (1) words = true := by kernel_rfl
theorem opW_10_p2 : opRow 56 10 (2) words = true := by kernel_rfl
theorem opW_10_p3 : opRow 56 10 (3) words = true := by kernel_rfl
theorem opW_10_p4 : opRow 56 10 (4) words = true := by kernel_rfl
theorem opW_10_p5 : opRow 56 10 (5) words = true := by kernel_rfl
theorem opW_10_p6 : opRow 56 10 (6) words = true := by kernel_rfl
theorem opW_10_p7 : opRow 56 10 (7) words = true := by kernel_rfl
theorem opW_10 : opAll 56 10 words = true := opAll_words opW_10_m8 opW_10_m7 opW_10_m6 opW_10_m5 opW_10_m4 opW_10_m3 opW_10_m2 opW_10_m1 opW_10_p0 opW_10_p1 opW_10_p2 opW_10_p3 opW_10_p4 opW_10_p5 opW_10_p6 opW_10_p7
theorem opW_11_m8 : opRow 56 11 (-8) words = true := by kernel_rfl
theorem opW_11_m7 : opRow 56 11 (-7) words = true := by kernel_rfl
theorem opW_11_m6 : opRow 56 11 (-6) words = true := by kernel_rfl
theorem opW_11_m5 : opRow 56 11 (-5) words = true := by kernel_rfl
theorem opW_11_m4 : opRow 56 11 (-4) words = true := by kernel_rfl
theorem opW_11_m3 : opRow 56 11 (-3) words = true := by kernel_rfl
theorem opW_11_m2 : opRow 56 11 (-2) words = true := by kernel_rfl
theorem opW_11_m1 : opRow 56 11 (-1) words = true := by kernel_rfl
theorem opW_11_p0 : opRow 56 11 (0) words = true := by kernel_rfl
theorem opW_11_p1 : opRow 56 11 (1) words = true := by kernel_rfl
theorem opW_11_p2 : opRow 56 11 (2) words = true := by kernel_rfl
theorem opW_11_p3 : opRow 56 11 (3) words = true := by kernel_rfl
theorem opW_11_p4 : opRow 56 11 (4) words = true := by kernel_rfl
theorem opW_11_p5 : opRow 56 11 (5) words = true := by kernel_rfl
theorem opW_11_p6 : opRow 56 11 (6) words = true := by kernel_rfl
theorem opW_11_p7 : opRow 56 11 (7) words = true := by kernel_rfl
theorem opW_11 : opAll 56 11 words = true := opAll_words opW_11_m8 opW_11_m7 opW_11_m6 opW_11_m5 opW_11_m4 opW_11_m3 opW_11_m2 opW_11_m1 opW_11_p0 opW_11_p1 opW_11_p2 opW_11_p3 opW_11_p4 opW_11_p5 opW_11_p6 opW_11_p7
theorem opW_12 : opAll 56 12 truths = true := by kernel_rfl
theorem opW_13 : opAll 56 13 truths = true := by kernel_rfl
end Go.Proofs.YtiobgkecpekhgaaDoor
