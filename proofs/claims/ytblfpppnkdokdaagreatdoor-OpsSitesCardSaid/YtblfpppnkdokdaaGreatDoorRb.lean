import Derived.Test.YtblfpppnkdokdaaGreatDoorR1
import Derived.Test.YtblfpppnkdokdaaGreatDoorR2
set_option maxRecDepth 100000
set_option linter.unusedVariables false
namespace Go.Proofs.YtblfpppnkdokdaaGreatDoor
open Go.AM
def tB0 : List (FuncId × List AV × AV) := [(19, [vY, nV4], zV), (19, [vX, nV4], .tup [.agg [.int .i64 4, .int .i64 0, .int .i64 0, .sl true []], .bool true]), (19, [vW, nV4], zV), (19, [vV, nV4], zV), (19, [vU, nV4], zV), (19, [vT, nV4], zV), (19, [vS, nV4], zV), (19, [vR, nV4], zV), (19, [vQ, nV4], zV), (19, [vO, nV4], zV), (19, [vN, nV4], zV), (19, [vM, nV4], zV)]
theorem OS : Runs tB0 := bU [90] (fU.app fO) (by kernel_rfl)
def tB1 : List (FuncId × List AV × AV) := [(19, [oV0, nV5], zV), (19, [oV1, nV5], zV), (19, [oV2, nV5], zV), (19, [oV3, nV5], zV), (19, [oV4, nV5], zV), (19, [oV5, nV5], zV), (19, [oV6, nV5], zV), (19, [oV7, nV5], zV), (19, [oV8, nV5], zV), (19, [oV9, nV5], zV), (19, [v6, nV5], zV), (19, [vZ, nV5], zV)]
theorem OR : Runs tB1 := bU [90] (fU.app fO) (by kernel_rfl)
def tB2 : List (FuncId × List AV × AV) := [(19, [vY, nV5], zV), (19, [vX, nV5], zV), (19, [vW, nV5], zV), (19, [vV, nV5], zV), (19, [vU, nV5], zV), (19, [vT, nV5], zV), (19, [vS, nV5], zV), (19, [vR, nV5], zV), (19, [vQ, nV5], zV), (19, [vO, nV5], zV), (19, [vN, nV5], zV), (19, [vM, nV5], zV)]
theorem OQ : Runs tB2 := bU [90] (fU.app fO) (by kernel_rfl)
def tB3 : List (FuncId × List AV × AV) := [(19, [oV0, nV6], zV), (19, [oV1, nV6], zV), (19, [oV2, nV6], zV), (19, [oV3, nV6], zV), (19, [oV4, nV6], zV), (19, [oV5, nV6], zV), (19, [oV6, nV6], zV), (19, [oV7, nV6], zV), (19, [oV8, nV6], zV), (19, [oV9, nV6], zV), (19, [v6, nV6], zV), (19, [vZ, nV6], zV)]
theorem OP : Runs tB3 := bU [90] (fU.app fO) (by kernel_rfl)
def tB4 : List (FuncId × List AV × AV) := [(19, [vY, nV6], zV), (19, [vX, nV6], zV), (19, [vW, nV6], zV), (19, [vV, nV6], zV), (19, [vU, nV6], zV), (19, [vT, nV6], zV), (19, [vS, nV6], zV), (19, [vR, nV6], zV), (19, [vQ, nV6], zV), (19, [vO, nV6], zV), (19, [vN, nV6], zV), (19, [vM, nV6], zV)]
theorem OO : Runs tB4 := bU [90] (fU.app fO) (by kernel_rfl)
def tB5 : List (FuncId × List AV × AV) := [(19, [oV0, nV7], zV), (19, [oV1, nV7], zV), (19, [oV2, nV7], zV), (19, [oV3, nV7], zV), (19, [oV4, nV7], zV), (19, [oV5, nV7], zV), (19, [oV6, nV7], zV), (19, [oV7, nV7], zV), (19, [oV8, nV7], zV), (19, [oV9, nV7], zV), (19, [v6, nV7], zV), (19, [vZ, nV7], zV)]
theorem ON : Runs tB5 := bU [90] (fU.app fO) (by kernel_rfl)
def tB6 : List (FuncId × List AV × AV) := [(19, [vY, nV7], zV), (19, [vX, nV7], zV), (19, [vW, nV7], zV), (19, [vV, nV7], zV), (19, [vU, nV7], zV), (19, [vT, nV7], zV), (19, [vS, nV7], zV), (19, [vR, nV7], zV), (19, [vQ, nV7], zV), (19, [vO, nV7], zV), (19, [vN, nV7], zV), (19, [vM, nV7], zV)]
theorem OM : Runs tB6 := bU [90] (fU.app fO) (by kernel_rfl)
def tB7 : List (FuncId × List AV × AV) := [(19, [oV0, nV8], zV), (19, [oV1, nV8], zV), (19, [oV2, nV8], zV), (19, [oV3, nV8], zV), (19, [oV4, nV8], zV), (19, [oV5, nV8], zV), (19, [oV6, nV8], zV), (19, [oV7, nV8], zV), (19, [oV8, nV8], zV), (19, [oV9, nV8], zV), (19, [v6, nV8], zV), (19, [vZ, nV8], zV)]
theorem OK : Runs tB7 := bU [90] (fU.app fO) (by kernel_rfl)
def tB8 : List (FuncId × List AV × AV) := [(19, [vY, nV8], zV), (19, [vX, nV8], zV), (19, [vW, nV8], zV), (19, [vV, nV8], zV), (19, [vU, nV8], zV), (19, [vT, nV8], zV), (19, [vS, nV8], zV), (19, [vR, nV8], zV), (19, [vQ, nV8], zV), (19, [vO, nV8], zV), (19, [vN, nV8], zV), (19, [vM, nV8], zV)]
theorem OJ : Runs tB8 := bU [90] (fU.app fO) (by kernel_rfl)
def tB : List (FuncId × List AV × AV) := (tB0 ++ (tB1 ++ (tB2 ++ (tB3 ++ (tB4 ++ (tB5 ++ (tB6 ++ (tB7 ++ tB8))))))))
theorem QL : Runs tB := (OS.app (OR.app (OQ.app (OP.app (OO.app (ON.app (OM.app (OK.app OJ))))))))
end Go.Proofs.YtblfpppnkdokdaaGreatDoor
