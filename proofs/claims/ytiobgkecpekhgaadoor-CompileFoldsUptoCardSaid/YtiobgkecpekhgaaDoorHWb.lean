import Derived.Test.YtiobgkecpekhgaaDoorHW
set_option linter.unusedVariables false
set_option linter.unusedSimpArgs false
namespace Go.Proofs.YtiobgkecpekhgaaDoor
open Go.AM
attribute [local irreducible] AWp rgnS callR callV effR valR guardR stepR nextR
set_option maxRecDepth 100000
theorem opW_5_m8 : opRow 56 5 (-8) words = true := by kernel_rfl
theorem opW_5_m7 : opRow 56 5 (-7) words = true := by kernel_rfl
theorem opW_5_m6 : opRow 56 5 (-6) words = true := by kernel_rfl
theorem opW_5_m5 : opRow 56 5 (-5) words = true := by kernel_rfl
theorem opW_5_m4 : opRow 56 5 (-4) words = true := by kernel_rfl
theorem opW_5_m3 : opRow 56 5 (-3) words = true := by kernel_rfl
theorem opW_5_m2 : opRow 56 5 (-2) words = true := by kernel_rfl
theorem opW_5_m1 : opRow 56 5 (-1) words = true := by kernel_rfl
theorem opW_5_p0 : opRow 56 5 (0) words = true := by kernel_rfl
theorem opW_5_p1 : opRow 56 5 (1) words = true := by kernel_rfl
theorem opW_5_p2 : opRow 56 5 (2) words = true := by kernel_rfl
theorem opW_5_p3 : opRow 56 5 (3) words = true := by kernel_rfl
theorem opW_5_p4 : opRow 56 5 (4) words = true := by kernel_rfl
theorem opW_5_p5 : opRow 56 5 (5) words = true := by kernel_rfl
theorem opW_5_p6 : opRow 56 5 (6) words = true := by kernel_rfl
theorem opW_5_p7 : opRow 56 5 (7) words = true := by kernel_rfl
theorem opW_5 : opAll 56 5 words = true := opAll_words opW_5_m8 opW_5_m7 opW_5_m6 opW_5_m5 opW_5_m4 opW_5_m3 opW_5_m2 opW_5_m1 opW_5_p0 opW_5_p1 opW_5_p2 opW_5_p3 opW_5_p4 opW_5_p5 opW_5_p6 opW_5_p7
theorem opW_6_m8 : opRow 56 6 (-8) words = true := by kernel_rfl
theorem opW_6_m7 : opRow 56 6 (-7) words = true := by kernel_rfl
theorem opW_6_m6 : opRow 56 6 (-6) words = true := by kernel_rfl
theorem opW_6_m5 : opRow 56 6 (-5) words = true := by kernel_rfl
theorem opW_6_m4 : opRow 56 6 (-4) words = true := by kernel_rfl
theorem opW_6_m3 : opRow 56 6 (-3) words = true := by kernel_rfl
theorem opW_6_m2 : opRow 56 6 (-2) words = true := by kernel_rfl
theorem opW_6_m1 : opRow 56 6 (-1) words = true := by kernel_rfl
theorem opW_6_p0 : opRow 56 6 (0) words = true := by kernel_rfl
theorem opW_6_p1 : opRow 56 6 (1) words = true := by kernel_rfl
theorem opW_6_p2 : opRow 56 6 (2) words = true := by kernel_rfl
theorem opW_6_p3 : opRow 56 6 (3) words = true := by kernel_rfl
theorem opW_6_p4 : opRow 56 6 (4) words = true := by kernel_rfl
theorem opW_6_p5 : opRow 56 6 (5) words = true := by kernel_rfl
theorem opW_6_p6 : opRow 56 6 (6) words = true := by kernel_rfl
theorem opW_6_p7 : opRow 56 6 (7) words = true := by kernel_rfl
theorem opW_6 : opAll 56 6 words = true := opAll_words opW_6_m8 opW_6_m7 opW_6_m6 opW_6_m5 opW_6_m4 opW_6_m3 opW_6_m2 opW_6_m1 opW_6_p0 opW_6_p1 opW_6_p2 opW_6_p3 opW_6_p4 opW_6_p5 opW_6_p6 opW_6_p7
theorem opW_7_m8 : opRow 56 7 (-8) words = true := by kernel_rfl
theorem opW_7_m7 : opRow 56 7 (-7) words = true := by kernel_rfl
theorem opW_7_m6 : opRow 56 7 (-6) words = true := by kernel_rfl
theorem opW_7_m5 : opRow 56 7 (-5) words = true := by kernel_rfl
theorem opW_7_m4 : opRow 56 7 (-4) words = true := by kernel_rfl
theorem opW_7_m3 : opRow 56 7 (-3) words = true := by kernel_rfl
theorem opW_7_m2 : opRow 56 7 (-2) words = true := by kernel_rfl
theorem opW_7_m1 : opRow 56 7 (-1) words = true := by kernel_rfl
theorem opW_7_p0 : opRow 56 7 (0) words = true := by kernel_rfl
theorem opW_7_p1 : opRow 56 7 (1) words = true := by kernel_rfl
theorem opW_7_p2 : opRow 56 7 (2) words = true := by kernel_rfl
theorem opW_7_p3 : opRow 56 7 (3) words = true := by kernel_rfl
theorem opW_7_p4 : opRow 56 7 (4) words = true := by kernel_rfl
theorem opW_7_p5 : opRow 56 7 (5) words = true := by kernel_rfl
theorem opW_7_p6 : opRow 56 7 (6) words = true := by kernel_rfl
theorem opW_7_p7 : opRow 56 7 (7) words = true := by kernel_rfl
theorem opW_7 : opAll 56 7 words = true := opAll_words opW_7_m8 opW_7_m7 opW_7_m6 opW_7_m5 opW_7_m4 opW_7_m3 opW_7_m2 opW_7_m1 opW_7_p0 opW_7_p1 opW_7_p2 opW_7_p3 opW_7_p4 opW_7_p5 opW_7_p6 opW_7_p7
theorem opW_8_m8 : opRow 56 8 (-8) words = true := by kernel_rfl
theorem opW_8_m7 : opRow 56 8 (-7) words = true := by kernel_rfl
theorem opW_8_m6 : opRow 56 8 (-6) words = true := by kernel_rfl
theorem opW_8_m5 : opRow 56 8 (-5) words = true := by kernel_rfl
theorem opW_8_m4 : opRow 56 8 (-4) words = true := by kernel_rfl
theorem opW_8_m3 : opRow 56 8 (-3) words = true := by kernel_rfl
theorem opW_8_m2 : opRow 56 8 (-2) words = true := by kernel_rfl
theorem opW_8_m1 : opRow 56 8 (-1) words = true := by kernel_rfl
theorem opW_8_p0 : opRow 56 8 (0) words = true := by kernel_rfl
theorem opW_8_p1 : opRow 56 8 (1) words = true := by kernel_rfl
theorem opW_8_p2 : opRow 56 8 (2) words = true := by kernel_rfl
theorem opW_8_p3 : opRow 56 8 (3) words = true := by kernel_rfl
theorem opW_8_p4 : opRow 56 8 (4) words = true := by kernel_rfl
theorem opW_8_p5 : opRow 56 8 (5) words = true := by kernel_rfl
theorem opW_8_p6 : opRow 56 8 (6) words = true := by kernel_rfl
theorem opW_8_p7 : opRow 56 8 (7) words = true := by kernel_rfl
theorem opW_8 : opAll 56 8 words = true := opAll_words opW_8_m8 opW_8_m7 opW_8_m6 opW_8_m5 opW_8_m4 opW_8_m3 opW_8_m2 opW_8_m1 opW_8_p0 opW_8_p1 opW_8_p2 opW_8_p3 opW_8_p4 opW_8_p5 opW_8_p6 opW_8_p7
end Go.Proofs.YtiobgkecpekhgaaDoor
