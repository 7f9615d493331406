import Derived.Test.YtblfpppnkdokdaaGreatDoorD0
import Derived.Test.YtblfpppnkdokdaaGreatDoorRN
import Derived.Test.YtblfpppnkdokdaaGreatDoorVE
import Derived.ProofKit
import Derived.SizedLaws
import Derived.OpenShut
import Derived.LaidMore
import Derived.Lay
import Derived.Stop.Joined
import Derived.Deep.DeepWitnessRowRef
set_option linter.unusedVariables false
set_option linter.unusedSimpArgs false
namespace Go.Proofs.YtblfpppnkdokdaaGreatDoor
open Go.AM
attribute [local irreducible] AWp aP aT bC bH bN aI aL bG
open Go.ChangeShapes Go.WideShapes Go.ChangeAt Go.RowKit
set_option maxRecDepth 100000
noncomputable def J3 : Array Field := match Tryz.prog.underlying 25 with
 | some (.struct fs) => fs
 | _ => #[]
theorem MY : Tryz.prog.underlying 25 = some (.struct J3) := by kernel_rfl
end Go.Proofs.YtblfpppnkdokdaaGreatDoor
