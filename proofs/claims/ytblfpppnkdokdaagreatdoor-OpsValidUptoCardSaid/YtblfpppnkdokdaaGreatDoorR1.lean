import Derived.Test.YtblfpppnkdokdaaGreatDoorR0
set_option maxRecDepth 100000
set_option linter.unusedVariables false
namespace Go.Proofs.YtblfpppnkdokdaaGreatDoor
open Go.AM
def tV0 : List (FuncId × List AV × AV) := [(11, [oV0], .bool true), (11, [oV1], .bool true)]
theorem tV0_ok : Runs tV0 := runs_ok [] no_table (by kernel_rfl)
def tV1 : List (FuncId × List AV × AV) := [(11, [oV2], .bool true), (11, [oV3], .bool true)]
theorem tV1_ok : Runs tV1 := runs_ok [] no_table (by kernel_rfl)
def tV2 : List (FuncId × List AV × AV) := [(11, [oV4], .bool true), (11, [oV5], .bool true)]
theorem tV2_ok : Runs tV2 := runs_ok [] no_table (by kernel_rfl)
def tV3 : List (FuncId × List AV × AV) := [(11, [oV6], .bool true), (11, [oV7], .bool true)]
theorem tV3_ok : Runs tV3 := runs_ok [] no_table (by kernel_rfl)
def tV4 : List (FuncId × List AV × AV) := [(11, [oV8], .bool true), (11, [oV9], .bool true)]
theorem tV4_ok : Runs tV4 := runs_ok [] no_table (by kernel_rfl)
def tV5 : List (FuncId × List AV × AV) := [(11, [oV10], .bool true), (11, [oV11], .bool true)]
theorem tV5_ok : Runs tV5 := runs_ok [] no_table (by kernel_rfl)
def tV : List (FuncId × List AV × AV) := (tV0 ++ (tV1 ++ (tV2 ++ (tV3 ++ (tV4 ++ tV5)))))
theorem tV_ok : Runs tV := (tV0_ok.app (tV1_ok.app (tV2_ok.app (tV3_ok.app (tV4_ok.app tV5_ok)))))
end Go.Proofs.YtblfpppnkdokdaaGreatDoor
