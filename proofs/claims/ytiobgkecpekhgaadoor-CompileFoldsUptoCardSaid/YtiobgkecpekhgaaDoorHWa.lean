import Derived.Test.YtiobgkecpekhgaaDoorHW
set_option linter.unusedVariables false
set_option linter.unusedSimpArgs false
namespace Go.Proofs.YtiobgkecpekhgaaDoor
open Go.AM
attribute [local irreducible] AWp rgnS callR callV effR valR guardR stepR nextR
set_option maxRecDepth 100000
theorem opW_0_m8 : opRow 56 0 (-8) words = true := by kernel_rfl
theorem opW_0_m7 : opRow 56 0 (-7) words = true := by kernel_rfl
theorem opW_0_m6 : opRow 56 0 (-6) words = true := by kernel_rfl
theorem opW_0_m5 : opRow 56 0 (-5) words = true := by kernel_rfl
theorem opW_0_m4 : opRow 56 0 (-4) words = true := by kernel_rfl
theorem opW_0_m3 : opRow 56 0 (-3) words = true := by kernel_rfl
theorem opW_0_m2 : opRow 56 0 (-2) words = true := by kernel_rfl
theorem opW_0_m1 : opRow 56 0 (-1) words = true := by kernel_rfl
theorem opW_0_p0 : opRow 56 0 (0) words = true := by kernel_rfl
theorem opW_0_p1 : opRow 56 0 (1) words = true := by kernel_rfl
theorem opW_0_p2 : opRow 56 0 (2) words = true := by kernel_rfl
theorem opW_0_p3 : opRow 56 0 (3) words = true := by kernel_rfl
theorem opW_0_p4 : opRow 56 0 (4) words = true := by kernel_rfl
theorem opW_0_p5 : opRow 56 0 (5) words = true := by kernel_rfl
theorem opW_0_p6 : opRow 56 0 (6) words = true := by kernel_rfl
theorem opW_0_p7 : opRow 56 0 (7) words = true := by kernel_rfl
theorem opW_0 : opAll 56 0 words = true := opAll_words opW_0_m8 opW_0_m7 opW_0_m6 opW_0_m5 opW_0_m4 opW_0_m3 opW_0_m2 opW_0_m1 opW_0_p0 opW_0_p1 opW_0_p2 opW_0_p3 opW_0_p4 opW_0_p5 opW_0_p6 opW_0_p7
theorem opW_1_m8 : opRow 56 1 (-8) words = true := by kernel_rfl
theorem opW_1_m7 : opRow 56 1 (-7) words = true := by kernel_rfl
theorem opW_1_m6 : opRow 56 1 (-6) words = true := by kernel_rfl
theorem opW_1_m5 : opRow 56 1 (-5) words = true := by kernel_rfl
theorem opW_1_m4 : opRow 56 1 (-4) words = true := by kernel_rfl
theorem opW_1_m3 : opRow 56 1 (-3) words = true := by kernel_rfl
theorem opW_1_m2 : opRow 56 1 (-2) words = true := by kernel_rfl
theorem opW_1_m1 : opRow 56 1 (-1) words = true := by kernel_rfl
theorem opW_1_p0 : opRow 56 1 (0) words = true := by kernel_rfl
theorem opW_1_p1 : opRow 56 1 (1) words = true := by kernel_rfl
theorem opW_1_p2 : opRow 56 1 (2) words = true := by kernel_rfl
theorem opW_1_p3 : opRow 56 1 (3) words = true := by kernel_rfl
theorem opW_1_p4 : opRow 56 1 (4) words = true := by kernel_rfl
theorem opW_1_p5 : opRow 56 1 (5) words = true := by kernel_rfl
theorem opW_1_p6 : opRow 56 1 (6) words = true := by kernel_rfl
theorem opW_1_p7 : opRow 56 1 (7) words = true := by kernel_rfl
theorem opW_1 : opAll 56 1 words = true := opAll_words opW_1_m8 opW_1_m7 opW_1_m6 opW_1_m5 opW_1_m4 opW_1_m3 opW_1_m2 opW_1_m1 opW_1_p0 opW_1_p1 opW_1_p2 opW_1_p3 opW_1_p4 opW_1_p5 opW_1_p6 opW_1_p7
theorem opW_2_m8 : opRow 56 2 (-8) words = true := by kernel_rfl
theorem opW_2_m7 : opRow 56 2 (-7) words = true := by kernel_rfl
theorem opW_2_m6 : opRow 56 2 (-6) words = true := by kernel_rfl
theorem opW_2_m5 : opRow 56 2 (-5) words = true := by kernel_rfl
theorem opW_2_m4 : opRow 56 2 (-4) words = true := by kernel_rfl
theorem opW_2_m3 : opRow 56 2 (-3) words = true := by kernel_rfl
theorem opW_2_m2 : opRow 56 2 (-2) words = true := by kernel_rfl
theorem opW_2_m1 : opRow 56 2 (-1) words = true := by kernel_rfl
theorem opW_2_p0 : opRow 56 2 (0) words = true := by kernel_rfl
theorem opW_2_p1 : opRow 56 2 (1) words = true := by kernel_rfl
theorem opW_2_p2 : opRow 56 2 (2) words = true := by kernel_rfl
theorem opW_2_p3 : opRow 56 2 (3) words = true := by kernel_rfl
theorem opW_2_p4 : opRow 56 2 (4) words = true := by kernel_rfl
theorem opW_2_p5 : opRow 56 2 (5) words = true := by kernel_rfl
theorem opW_2_p6 : opRow 56 2 (6) words = true := by kernel_rfl
theorem opW_2_p7 : opRow 56 2 (7) words = true := by kernel_rfl
theorem opW_2 : opAll 56 2 words = true := opAll_words opW_2_m8 opW_2_m7 opW_2_m6 opW_2_m5 opW_2_m4 opW_2_m3 opW_2_m2 opW_2_m1 opW_2_p0 opW_2_p1 opW_2_p2 opW_2_p3 opW_2_p4 opW_2_p5 opW_2_p6 opW_2_p7
theorem opW_3_m8 : opRow 56 3 (-8) words = true := by kernel_rfl
theorem opW_3_m7 : opRow 56 3 (-7) words = true := by kernel_rfl
theorem opW_3_m6 : opRow 56 3 (-6) words = true := by kernel_rfl
theorem opW_3_m5 : opRow 56 3 (-5) words = true := by kernel_rfl
theorem opW_3_m4 : opRow 56 3 (-4) words = true := by kernel_rfl
theorem opW_3_m3 : opRow 56 3 (-3) words = true := by kernel_rfl
theorem opW_3_m2 : opRow 56 3 (-2) words = true := by kernel_rfl
theorem opW_3_m1 : opRow 56 3 (-1) words = true := by kernel_rfl
theorem opW_3_p0 : opRow 56 3 (0) words = true := by kernel_rfl
theorem opW_3_p1 : opRow 56 3 (1) words = true := by kernel_rfl
theorem opW_3_p2 : opRow 56 3 (2) words = true := by kernel_rfl
theorem opW_3_p3 : opRow 56 3 (3) words = true := by kernel_rfl
theorem opW_3_p4 : opRow 56 3 (4) words = true := by kernel_rfl
theorem opW_3_p5 : opRow 56 3 (5) words = true := by kernel_rfl
theorem opW_3_p6 : opRow 56 3 (6) words = true := by kernel_rfl
theorem opW_3_p7 : opRow 56 3 (7) words = true := by kernel_rfl
theorem opW_3 : opAll 56 3 words = true := opAll_words opW_3_m8 opW_3_m7 opW_3_m6 opW_3_m5 opW_3_m4 opW_3_m3 opW_3_m2 opW_3_m1 opW_3_p0 opW_3_p1 opW_3_p2 opW_3_p3 opW_3_p4 opW_3_p5 opW_3_p6 opW_3_p7
theorem opW_4_m8 : opRow 56 4 (-8) words = true := by kernel_rfl
theorem opW_4_m7 : opRow 56 4 (-7) words = true := by kernel_rfl
theorem opW_4_m6 : opRow 56 4 (-6) words = true := by kernel_rfl
theorem opW_4_m5 : opRow 56 4 (-5) words = true := by kernel_rfl
theorem opW_4_m4 : opRow 56 4 (-4) words = true := by kernel_rfl
theorem opW_4_m3 : opRow 56 4 (-3) words = true := by kernel_rfl
theorem opW_4_m2 : opRow 56 4 (-2) words = true := by kernel_rfl
theorem opW_4_m1 : opRow 56 4 (-1) words = true := by kernel_rfl
theorem opW_4_p0 : opRow 56 4 (0) words = true := by kernel_rfl
theorem opW_4_p1 : opRow 56 4 (1) words = true := by kernel_rfl
theorem opW_4_p2 : opRow 56 4 (2) words = true := by kernel_rfl
theorem opW_4_p3 : opRow 56 4 (3) words = true := by kernel_rfl
theorem opW_4_p4 : opRow 56 4 (4) words = true := by kernel_rfl
theorem opW_4_p5 : opRow 56 4 (5) words = true := by kernel_rfl
theorem opW_4_p6 : opRow 56 4 (6) words = true := by kernel_rfl
theorem opW_4_p7 : opRow 56 4 (7) words = true := by kernel_rfl
theorem opW_4 : opAll 56 4 words = true := opAll_words opW_4_m8 opW_4_m7 opW_4_m6 opW_4_m5 opW_4_m4 opW_4_m3 opW_4_m2 opW_4_m1 opW_4_p0 opW_4_p1 opW_4_p2 opW_4_p3 opW_4_p4 opW_4_p5 opW_4_p6 opW_4_p7
end Go.Proofs.YtiobgkecpekhgaaDoor
