import Derived.Test.YtblfpppnkdokdaaGreatDoorR0
set_option maxRecDepth 100000
set_option linter.unusedVariables false
namespace Go.Proofs.YtblfpppnkdokdaaGreatDoor
open Go.AM
def tW0 : List (FuncId × List AV × AV) := [(11, [vY], .bool true), (11, [vX], .bool true)]
theorem O9 : Runs tW0 := bU [] cR (by kernel_rfl)
def tW1 : List (FuncId × List AV × AV) := [(11, [vW], .bool true), (11, [vV], .bool true)]
theorem O8 : Runs tW1 := bU [] cR (by kernel_rfl)
def tW2 : List (FuncId × List AV × AV) := [(11, [vU], .bool true), (11, [vT], .bool true)]
theorem O7 : Runs tW2 := bU [] cR (by kernel_rfl)
def tW3 : List (FuncId × List AV × AV) := [(11, [vS], .bool true), (11, [vR], .bool true)]
theorem O6 : Runs tW3 := bU [] cR (by kernel_rfl)
def tW4 : List (FuncId × List AV × AV) := [(11, [vQ], .bool true), (11, [vO], .bool true)]
theorem O5 : Runs tW4 := bU [] cR (by kernel_rfl)
def tW5 : List (FuncId × List AV × AV) := [(11, [vN], .bool true), (11, [vM], .bool true)]
theorem O4 : Runs tW5 := bU [] cR (by kernel_rfl)
def tW : List (FuncId × List AV × AV) := (tW0 ++ (tW1 ++ (tW2 ++ (tW3 ++ (tW4 ++ tW5)))))
theorem fO : Runs tW := (O9.app (O8.app (O7.app (O6.app (O5.app O4)))))
end Go.Proofs.YtblfpppnkdokdaaGreatDoor
