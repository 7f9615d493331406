import Derived.Test.YtbbgolecnmifpaaDoorW1
set_option linter.unusedVariables false
set_option linter.unusedSimpArgs false
namespace Go.Proofs.YtbbgolecnmifpaaDoor
open Go.AM
set_option maxRecDepth 100000
theorem op_8 : opAll 8 words = true := by kernel_rfl
theorem op_9 : opAll 9 words = true := by kernel_rfl
theorem op_10 : opAll 10 words = true := by kernel_rfl
theorem op_11 : opAll 11 words = true := by kernel_rfl
theorem op_12 : opAll 12 truths = true := by kernel_rfl
theorem op_13 : opAll 13 truths = true := by kernel_rfl

end Go.Proofs.YtbbgolecnmifpaaDoor
