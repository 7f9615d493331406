import Derived.Test.YtblfpppnkdokdaaGreatDoorR0
set_option maxRecDepth 100000
set_option linter.unusedVariables false
namespace Go.Proofs.YtblfpppnkdokdaaGreatDoor
open Go.AM
def tV0 : List (FuncId × List AV × AV) := [(11, [oV0], .bool true), (11, [oV1], .bool true)]
theorem OI : Runs tV0 := bU [] cR (by kernel_rfl)
def tV1 : List (FuncId × List AV × AV) := [(11, [oV2], .bool true), (11, [oV3], .bool true)]
theorem OH : Runs tV1 := bU [] cR (by kernel_rfl)
def tV2 : List (FuncId × List AV × AV) := [(11, [oV4], .bool true), (11, [oV5], .bool true)]
theorem OG : Runs tV2 := bU [] cR (by kernel_rfl)
def tV3 : List (FuncId × List AV × AV) := [(11, [oV6], .bool true), (11, [oV7], .bool true)]
theorem OD : Runs tV3 := bU [] cR (by kernel_rfl)
def tV4 : List (FuncId × List AV × AV) := [(11, [oV8], .bool true), (11, [oV9], .bool true)]
theorem OB : Runs tV4 := bU [] cR (by kernel_rfl)
def tV5 : List (FuncId × List AV × AV) := [(11, [v6], .bool true), (11, [vZ], .bool true)]
theorem OA : Runs tV5 := bU [] cR (by kernel_rfl)
def tV : List (FuncId × List AV × AV) := (tV0 ++ (tV1 ++ (tV2 ++ (tV3 ++ (tV4 ++ tV5)))))
theorem fU : Runs tV := (OI.app (OH.app (OG.app (OD.app (OB.app OA)))))
end Go.Proofs.YtblfpppnkdokdaaGreatDoor
