import Derived.Test.YtblfpppnkdokdaaGreatDoorR0
set_option maxRecDepth 100000
set_option linter.unusedVariables false
namespace Go.Proofs.YtblfpppnkdokdaaGreatDoor
open Go.AM
def tV0 : List (FuncId × List AV × AV) := [(11, [oV0], .bool true), (11, [oV1], .bool true)]
theorem NZ : Runs tV0 := bT [] cQ (by kernel_rfl)
def tV1 : List (FuncId × List AV × AV) := [(11, [oV2], .bool true), (11, [oV3], .bool true)]
theorem NY : Runs tV1 := bT [] cQ (by kernel_rfl)
def tV2 : List (FuncId × List AV × AV) := [(11, [oV4], .bool true), (11, [oV5], .bool true)]
theorem NX : Runs tV2 := bT [] cQ (by kernel_rfl)
def tV3 : List (FuncId × List AV × AV) := [(11, [oV6], .bool true), (11, [oV7], .bool true)]
theorem NW : Runs tV3 := bT [] cQ (by kernel_rfl)
def tV4 : List (FuncId × List AV × AV) := [(11, [oV8], .bool true), (11, [oV9], .bool true)]
theorem NV : Runs tV4 := bT [] cQ (by kernel_rfl)
def tV5 : List (FuncId × List AV × AV) := [(11, [vV], .bool true), (11, [vU], .bool true)]
theorem NU : Runs tV5 := bT [] cQ (by kernel_rfl)
def tV : List (FuncId × List AV × AV) := (tV0 ++ (tV1 ++ (tV2 ++ (tV3 ++ (tV4 ++ tV5)))))
theorem fQ : Runs tV := (NZ.app (NY.app (NX.app (NW.app (NV.app NU)))))
end Go.Proofs.YtblfpppnkdokdaaGreatDoor
