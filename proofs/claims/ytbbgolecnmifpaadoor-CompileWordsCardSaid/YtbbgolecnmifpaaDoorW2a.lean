import Derived.Test.YtbbgolecnmifpaaDoorW1
set_option linter.unusedVariables false
set_option linter.unusedSimpArgs false
namespace Go.Proofs.YtbbgolecnmifpaaDoor
open Go.AM
set_option maxRecDepth 100000
theorem op_0 : opAll 0 words = true := by kernel_rfl
theorem op_1 : opAll 1 words = true := by kernel_rfl
theorem op_2 : opAll 2 words = true := by kernel_rfl
theorem op_3 : opAll 3 words = true := by kernel_rfl

end Go.Proofs.YtbbgolecnmifpaaDoor
