import Derived.Test.YtblfpppnkdokdaaGreatDoorR0
set_option maxRecDepth 100000
set_option linter.unusedVariables false
namespace Go.Proofs.YtblfpppnkdokdaaGreatDoor
open Go.AM
def tW0 : List (FuncId × List AV × AV) := [(11, [vT], .bool true), (11, [vS], .bool true)]
theorem NT : Runs tW0 := bT [] cQ (by kernel_rfl)
def tW1 : List (FuncId × List AV × AV) := [(11, [vR], .bool true), (11, [vQ], .bool true)]
theorem NS : Runs tW1 := bT [] cQ (by kernel_rfl)
def tW2 : List (FuncId × List AV × AV) := [(11, [vO], .bool true), (11, [vN], .bool true)]
theorem NR : Runs tW2 := bT [] cQ (by kernel_rfl)
def tW3 : List (FuncId × List AV × AV) := [(11, [vM], .bool true), (11, [vL], .bool true)]
theorem NQ : Runs tW3 := bT [] cQ (by kernel_rfl)
def tW4 : List (FuncId × List AV × AV) := [(11, [vK], .bool true), (11, [vJ], .bool true)]
theorem NO : Runs tW4 := bT [] cQ (by kernel_rfl)
def tW5 : List (FuncId × List AV × AV) := [(11, [vI], .bool true), (11, [vH], .bool true)]
theorem NN : Runs tW5 := bT [] cQ (by kernel_rfl)
def tW : List (FuncId × List AV × AV) := (tW0 ++ (tW1 ++ (tW2 ++ (tW3 ++ (tW4 ++ tW5)))))
theorem fL : Runs tW := (NT.app (NS.app (NR.app (NQ.app (NO.app NN)))))
end Go.Proofs.YtblfpppnkdokdaaGreatDoor
