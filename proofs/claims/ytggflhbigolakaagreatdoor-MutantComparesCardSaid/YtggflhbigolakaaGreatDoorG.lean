import Derived.Test.YtggflhbigolakaaGreatDoorTypes
import Derived.Test.YtggflhbigolakaaGreatDoorAC
set_option linter.unusedVariables false
namespace Go.Proofs.YtggflhbigolakaaGreatDoor
open Go.AM
def G0:Nat→Option (List AV):=fun _=>none
theorem hG0:∀ g cs,G0 g=some cs→inL aC cs=true:=fun g cs h=>by cases h
end Go.Proofs.YtggflhbigolakaaGreatDoor
