import Derived.Test.YtbbgolecnmifpaaDoorW1
set_option linter.unusedVariables false
set_option linter.unusedSimpArgs false
namespace Go.Proofs.YtbbgolecnmifpaaDoor
open Go.AM
set_option maxRecDepth 100000
theorem op_4 : opAll 4 words = true := by kernel_rfl
theorem op_5 : opAll 5 words = true := by kernel_rfl
theorem op_6 : opAll 6 words = true := by kernel_rfl
theorem op_7 : opAll 7 words = true := by kernel_rfl

end Go.Proofs.YtbbgolecnmifpaaDoor
