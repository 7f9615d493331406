import Derived.Test.YtiobgkecpekhgaaDoorHW
set_option linter.unusedVariables false
set_option linter.unusedSimpArgs false
namespace Go.Proofs.YtiobgkecpekhgaaDoor
open Go.AM
attribute [local irreducible] AWp rgnS callR callV effR valR guardR stepR nextR
set_option maxRecDepth 100000
theorem opR_0_m8 : opRow 60 0 (-8) words = true := by kernel_rfl
theorem opR_0_m7 : opRow 60 0 (-7) words = true := by kernel_rfl
theorem opR_0_m6 : opRow 60 0 (-6) words = true := by kernel_rfl
theorem opR_0_m5 : opRow 60 0 (-5) words = true := by kernel_rfl
theorem opR_0_m4 : opRow 60 0 (-4) words = true := by kernel_rfl
theorem opR_0_m3 : opRow 60 0 (-3) words = true := by kernel_rfl
theorem opR_0_m2 : opRow 60 0 (-2) words = true := by kernel_rfl
theorem opR_0_m1 : opRow 60 0 (-1) words = true := by kernel_rfl
theorem opR_0_p0 : opRow 60 0 (0) words = true := by kernel_rfl
theorem opR_0_p1 : opRow 60 0 (1) words = true := by kernel_rfl
theorem opR_0_p2 : opRow 60 0 (2) words = true := by kernel_rfl
theorem opR_0_p3 : opRow 60 0 (3) words = true := by kernel_rfl
theorem opR_0_p4 : opRow 60 0 (4) words = true := by kernel_rfl
theorem opR_0_p5 : opRow 60 0 (5) words = true := by kernel_rfl
theorem opR_0_p6 : opRow 60 0 (6) words = true := by kernel_rfl
theorem opR_0_p7 : opRow 60 0 (7) words = true := by kernel_rfl
theorem opR_0 : opAll 60 0 words = true := opAll_words opR_0_m8 opR_0_m7 opR_0_m6 opR_0_m5 opR_0_m4 opR_0_m3 opR_0_m2 opR_0_m1 opR_0_p0 opR_0_p1 opR_0_p2 opR_0_p3 opR_0_p4 opR_0_p5 opR_0_p6 opR_0_p7
theorem opR_1_m8 : opRow 60 1 (-8) words = true := by kernel_rfl
theorem opR_1_m7 : opRow 60 1 (-7) words = true := by kernel_rfl
theorem opR_1_m6 : opRow 60 1 (-6) words = true := by kernel_rfl
theorem opR_1_m5 : opRow 60 1 (-5) words = true := by kernel_rfl
theorem opR_1_m4 : opRow 60 1 (-4) words = true := by kernel_rfl
theorem opR_1_m3 : opRow 60 1 (-3) words = true := by kernel_rfl
theorem opR_1_m2 : opRow 60 1 (-2) words = true := by kernel_rfl
theorem opR_1_m1 : opRow 60 1 (-1) words = true := by kernel_rfl
theorem opR_1_p0 : opRow 60 1 (0) words = true := by kernel_rfl
theorem opR_1_p1 : opRow 60 1 (1) words = true := by kernel_rfl
theorem opR_1_p2 : opRow 60 1 (2) words = true := by kernel_rfl
theorem opR_1_p3 : opRow 60 1 (3) words = true := by kernel_rfl
theorem opR_1_p4 : opRow 60 1 (4) words = true := by kernel_rfl
theorem opR_1_p5 : opRow 60 1 (5) words = true := by kernel_rfl
theorem opR_1_p6 : opRow 60 1 (6) words = true := by kernel_rfl
theorem opR_1_p7 : opRow 60 1 (7) words = true := by kernel_rfl
theorem opR_1 : opAll 60 1 words = true := opAll_words opR_1_m8 opR_1_m7 opR_1_m6 opR_1_m5 opR_1_m4 opR_1_m3 opR_1_m2 opR_1_m1 opR_1_p0 opR_1_p1 opR_1_p2 opR_1_p3 opR_1_p4 opR_1_p5 opR_1_p6 opR_1_p7
theorem opR_2_m8 : opRow 60 2 (-8) words = true := by kernel_rfl
theorem opR_2_m7 : opRow 60 2 (-7) words = true := by kernel_rfl
theorem opR_2_m6 : opRow 60 2 (-6) words = true := by kernel_rfl
theorem opR_2_m5 : opRow 60 2 (-5) words = true := by kernel_rfl
theorem opR_2_m4 : opRow 60 2 (-4) words = true := by kernel_rfl
theorem opR_2_m3 : opRow 60 2 (-3) words = true := by kernel_rfl
theorem opR_2_m2 : opRow 60 2 (-2) words = true := by kernel_rfl
theorem opR_2_m1 : opRow 60 2 (-1) words = true := by kernel_rfl
theorem opR_2_p0 : opRow 60 2 (0) words = true := by kernel_rfl
theorem opR_2_p1 : opRow 60 2 (1) words = true := by kernel_rfl
theorem opR_2_p2 : opRow 60 2 (2) words = true := by kernel_rfl
theorem opR_2_p3 : opRow 60 2 (3) words = true := by kernel_rfl
theorem opR_2_p4 : opRow 60 2 (4) words = true := by kernel_rfl
theorem opR_2_p5 : opRow 60 2 (5) words = true := by kernel_rfl
theorem opR_2_p6 : opRow 60 2 (6) words = true := by kernel_rfl
theorem opR_2_p7 : opRow 60 2 (7) words = true := by kernel_rfl
theorem opR_2 : opAll 60 2 words = true := opAll_words opR_2_m8 opR_2_m7 opR_2_m6 opR_2_m5 opR_2_m4 opR_2_m3 opR_2_m2 opR_2_m1 opR_2_p0 opR_2_p1 opR_2_p2 opR_2_p3 opR_2_p4 opR_2_p5 opR_2_p6 opR_2_p7
theorem opR_3_m8 : opRow 60 3 (-8) words = true := by kernel_rfl
theorem opR_3_m7 : opRow 60 3 (-7) words = true := by kernel_rfl
theorem opR_3_m6 : opRow 60 3 (-6) words = true := by kernel_rfl
theorem opR_3_m5 : opRow 60 3 (-5) words = true := by kernel_rfl
theorem opR_3_m4 : opRow 60 3 (-4) words = true := by kernel_rfl
theorem opR_3_m3 : opRow 60 3 (-3) words = true := by kernel_rfl
theorem opR_3_m2 : opRow 60 3 (-2) words = true := by kernel_rfl
theorem opR_3_m1 : opRow 60 3 (-1) words = true := by kernel_rfl
theorem opR_3_p0 : opRow 60 3 (0) words = true := by kernel_rfl
theorem opR_3_p1 : opRow 60 3 (1) words = true := by kernel_rfl
theorem opR_3_p2 : opRow 60 3 (2) words = true := by kernel_rfl
theorem opR_3_p3 : opRow 60 3 (3) words = true := by kernel_rfl
theorem opR_3_p4 : opRow 60 3 (4) words = true := by kernel_rfl
theorem opR_3_p5 : opRow 60 3 (5) words = true := by kernel_rfl
theorem opR_3_p6 : opRow 60 3 (6) words = true := by kernel_rfl
theorem opR_3_p7 : opRow 60 3 (7) words = true := by kernel_rfl
theorem opR_3 : opAll 60 3 words = true := opAll_words opR_3_m8 opR_3_m7 opR_3_m6 opR_3_m5 opR_3_m4 opR_3_m3 opR_3_m2 opR_3_m1 opR_3_p0 opR_3_p1 opR_3_p2 opR_3_p3 opR_3_p4 opR_3_p5 opR_3_p6 opR_3_p7
theorem opR_4_m8 : opRow 60 4 (-8) words = true := by kernel_rfl
theorem opR_4_m7 : opRow 60 4 (-7) words = true := by kernel_rfl
theorem opR_4_m6 : opRow 60 4 (-6) words = true := by kernel_rfl
theorem opR_4_m5 : opRow 60 4 (-5) words = true := by kernel_rfl
theorem opR_4_m4 : opRow 60 4 (-4) words = true := by kernel_rfl
theorem opR_4_m3 : opRow 60 4 (-3) words = true := by kernel_rfl
theorem opR_4_m2 : opRow 60 4 (-2) words = true := by kernel_rfl
theorem opR_4_m1 : opRow 60 4 (-1) words = true := by kernel_rfl
theorem opR_4_p0 : opRow 60 4 (0) words = true := by kernel_rfl
theorem opR_4_p1 : opRow 60 4 (1) words = true := by kernel_rfl
theorem opR_4_p2 : opRow 60 4 (2) words = true := by kernel_rfl
theorem opR_4_p3 : opRow 60 4 (3) words = true := by kernel_rfl
theorem opR_4_p4 : opRow 60 4 (4) words = true := by kernel_rfl
theorem opR_4_p5 : opRow 60 4 (5) words = true := by kernel_rfl
theorem opR_4_p6 : opRow 60 4 (6) words = true := by kernel_rfl
theorem opR_4_p7 : opRow 60 4 (7) words = true := by kernel_rfl
theorem opR_4 : opAll 60 4 words = true := opAll_words opR_4_m8 opR_4_m7 opR_4_m6 opR_4_m5 opR_4_m4 opR_4_m3 opR_4_m2 opR_4_m1 opR_4_p0 opR_4_p1 opR_4_p2 opR_4_p3 opR_4_p4 opR_4_p5 opR_4_p6 opR_4_p7
end Go.Proofs.YtiobgkecpekhgaaDoor
