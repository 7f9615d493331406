import Derived.Test.YtblfpppnkdokdaaGreatDoorR0
set_option maxRecDepth 100000
set_option linter.unusedVariables false
namespace Go.Proofs.YtblfpppnkdokdaaGreatDoor
open Go.AM
def tW0 : List (FuncId × List AV × AV) := [(11, [oV12], .bool true), (11, [oV13], .bool true)]
theorem tW0_ok : Runs tW0 := runs_ok [] no_table (by kernel_rfl)
def tW1 : List (FuncId × List AV × AV) := [(11, [oV14], .bool true), (11, [oV15], .bool true)]
theorem tW1_ok : Runs tW1 := runs_ok [] no_table (by kernel_rfl)
def tW2 : List (FuncId × List AV × AV) := [(11, [oV16], .bool true), (11, [oV17], .bool true)]
theorem tW2_ok : Runs tW2 := runs_ok [] no_table (by kernel_rfl)
def tW3 : List (FuncId × List AV × AV) := [(11, [oV18], .bool true), (11, [oV19], .bool true)]
theorem tW3_ok : Runs tW3 := runs_ok [] no_table (by kernel_rfl)
def tW4 : List (FuncId × List AV × AV) := [(11, [oV20], .bool true), (11, [oV21], .bool true)]
theorem tW4_ok : Runs tW4 := runs_ok [] no_table (by kernel_rfl)
def tW5 : List (FuncId × List AV × AV) := [(11, [oV22], .bool true), (11, [oV23], .bool true)]
theorem tW5_ok : Runs tW5 := runs_ok [] no_table (by kernel_rfl)
def tW : List (FuncId × List AV × AV) := (tW0 ++ (tW1 ++ (tW2 ++ (tW3 ++ (tW4 ++ tW5)))))
theorem tW_ok : Runs tW := (tW0_ok.app (tW1_ok.app (tW2_ok.app (tW3_ok.app (tW4_ok.app tW5_ok)))))
end Go.Proofs.YtblfpppnkdokdaaGreatDoor
