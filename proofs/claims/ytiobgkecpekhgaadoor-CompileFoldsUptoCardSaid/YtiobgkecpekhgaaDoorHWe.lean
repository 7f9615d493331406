import Derived.Test.YtiobgkecpekhgaaDoorHW
set_option linter.unusedVariables false
set_option linter.unusedSimpArgs false
namespace Go.Proofs.YtiobgkecpekhgaaDoor
open Go.AM
attribute [local irreducible] AWp rgnS callR callV effR valR guardR stepR nextR
set_option maxRecDepth 100000
theorem opR_8_m8 : opRow 60 8 (-8) words = true := by kernel_rfl
theorem opR_8_m7 : opRow 60 8 (-7) words = true := by kernel_rfl
theorem opR_8_m6 : opRow 60 8 (-6) words = true := by kernel_rfl
theorem opR_8_m5 : opRow 60 8 (-5) words = true := by kernel_rfl
theorem opR_8_m4 : opRow 60 8 (-4) words = true := by kernel_rfl
theorem opR_8_m3 : opRow 60 8 (-3) words = true := by kernel_rfl
theorem opR_8_m2 : opRow 60 8 (-2) words = true := by kernel_rfl
theorem opR_8_m1 : opRow 60 8 (-1) words = true := by kernel_rfl
theorem opR_8_p0 : opRow 60 8 (0) words = true := by kernel_rfl
theorem opR_8_p1 : opRow 60 8 (1) words = true := by kernel_rfl
theorem opR_8_p2 : opRow 60 8 (2) words = true := by kernel_rfl
theorem opR_8_p3 : opRow 60 8 (3) words = true := by kernel_rfl
theorem opR_8_p4 : opRow 60 8 (4) words = true := by kernel_rfl
theorem opR_8_p5 : opRow 60 8 (5) words = true := by kernel_rfl
theorem opR_8_p6 : opRow 60 8 (6) words = true := by kernel_rfl
theorem opR_8_p7 : opRow 60 8 (7) words = true := by kernel_rfl
theorem opR_8 : opAll 60 8 words = true := opAll_words opR_8_m8 opR_8_m7 opR_8_m6 opR_8_m5 opR_8_m4 opR_8_m3 opR_8_m2 opR_8_m1 opR_8_p0 opR_8_p1 opR_8_p2 opR_8_p3 opR_8_p4 opR_8_p5 opR_8_p6 opR_8_p7
theorem opR_9_m8 : opRow 60 9 (-8) words = true := by kernel_rfl
theorem opR_9_m7 : opRow 60 9 (-7) words = true := by kernel_rfl
theorem opR_9_m6 : opRow 60 9 (-6) words = true := by kernel_rfl
theorem opR_9_m5 : opRow 60 9 (-5) words = true := by kernel_rfl
theorem opR_9_m4 : opRow 60 9 (-4) words = true := by kernel_rfl
theorem opR_9_m3 : opRow 60 9 (-3) words = true := by kernel_rfl
theorem opR_9_m2 : opRow 60 9 (-2) words = true := by kernel_rfl
theorem opR_9_m1 : opRow 60 9 (-1) words = true := by kernel_rfl
theorem opR_9_p0 : opRow 60 9 (0) words = true := by kernel_rfl
theorem opR_9_p1 : opRow 60 9 (1) words = true := by kernel_rfl
theorem opR_9_p2 : opRow 60 9 (2) words = true := by kernel_rfl
theorem opR_9_p3 : opRow 60 9 (3) words = true := by kernel_rfl
theorem opR_9_p4 : opRow 60 9 (4) words = true := by kernel_rfl
theorem opR_9_p5 : opRow 60 9 (5) words = true := by kernel_rfl
theorem opR_9_p6 : opRow 60 9 (6) words = true := by kernel_rfl
theorem opR_9_p7 : opRow 60 9 (7) words = true := by kernel_rfl
theorem opR_9 : opAll 60 9 words = true := opAll_words opR_9_m8 opR_9_m7 opR_9_m6 opR_9_m5 opR_9_m4 opR_9_m3 opR_9_m2 opR_9_m1 opR_9_p0 opR_9_p1 opR_9_p2 opR_9_p3 opR_9_p4 opR_9_p5 opR_9_p6 opR_9_p7
theorem opR_10_m8 : opRow 60 10 (-8) words = true := by kernel_rfl
theorem opR_10_m7 : opRow 60 10 (-7) words = true := by kernel_rfl
theorem opR_10_m6 : opRow 60 10 (-6) words = true := by kernel_rfl
theorem opR_10_m5 : opRow 60 10 (-5) words = true := by kernel_rfl
theorem opR_10_m4 : opRow 60 10 (-4) words = true := by kernel_rfl
theorem opR_10_m3 : opRow 60 10 (-3) words = true := by kernel_rfl
theorem opR_10_m2 : opRow 60 10 (-2) words = true := by kernel_rfl
theorem opR_10_m1 : opRow 60 10 (-1) words = true := by kernel_rfl
theorem opR_10_p0 : opRow 60 10 (0) words = true := by kernel_rfl
theorem opR_10_p1 : opRow 60 10 (1) words = true := by kernel_rfl
theorem opR_10_p2 : opRow 60 10 (2) words = true := by kernel_rfl
theorem opR_10_p3 : opRow 60 10 (3) words = true := by kernel_rfl
theorem opR_10_p4 : opRow 60 10 (4) words = true := by kernel_rfl
theorem opR_10_p5 : opRow 60 10 (5) words = true := by kernel_rfl
theorem opR_10_p6 : opRow 60 10 (6) words = true := by kernel_rfl
theorem opR_10_p7 : opRow 60 10 (7) words = true := by kernel_rfl
theorem opR_10 : opAll 60 10 words = true := opAll_words opR_10_m8 opR_10_m7 opR_10_m6 opR_10_m5 opR_10_m4 opR_10_m3 opR_10_m2 opR_10_m1 opR_10_p0 opR_10_p1 opR_10_p2 opR_10_p3 opR_10_p4 opR_10_p5 opR_10_p6 opR_10_p7
theorem opR_11_m8 : opRow 60 11 (-8) words = true := by kernel_rfl
theorem opR_11_m7 : opRow 60 11 (-7) words = true := by kernel_rfl
theorem opR_11_m6 : opRow 60 11 (-6) words = true := by kernel_rfl
theorem opR_11_m5 : opRow 60 11 (-5) words = true := by kernel_rfl
theorem opR_11_m4 : opRow 60 11 (-4) words = true := by kernel_rfl
theorem opR_11_m3 : opRow 60 11 (-3) words = true := by kernel_rfl
theorem opR_11_m2 : opRow 60 11 (-2) words = true := by kernel_rfl
theorem opR_11_m1 : opRow 60 11 (-1) words = true := by kernel_rfl
theorem opR_11_p0 : opRow 60 11 (0) words = true := by kernel_rfl
theorem opR_11_p1 : opRow 60 11 (1) words = true := by kernel_rfl
theorem opR_11_p2 : opRow 60 11 (2) words = true := by kernel_rfl
theorem opR_11_p3 : opRow 60 11 (3) words = true := by kernel_rfl
theorem opR_11_p4 : opRow 60 11 (4) words = true := by kernel_rfl
theorem opR_11_p5 : opRow 60 11 (5) words = true := by kernel_rfl
theorem opR_11_p6 : opRow 60 11 (6) words = true := by kernel_rfl
theorem opR_11_p7 : opRow 60 11 (7) words = true := by kernel_rfl
theorem opR_11 : opAll 60 11 words = true := opAll_words opR_11_m8 opR_11_m7 opR_11_m6 opR_11_m5 opR_11_m4 opR_11_m3 opR_11_m2 opR_11_m1 opR_11_p0 opR_11_p1 opR_11_p2 opR_11_p3 opR_11_p4 opR_11_p5 opR_11_p6 opR_11_p7
theorem opR_12 : opAll 60 12 truths = true := by kernel_rfl
theorem opR_13 : opAll 60 13 truths = true := by kernel_rfl
end Go.Proofs.YtiobgkecpekhgaaDoor
