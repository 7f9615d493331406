import Derived.Test.YtblfpppnkdokdaaGreatDoorR1
import Derived.Test.YtblfpppnkdokdaaGreatDoorR2
set_option maxRecDepth 100000
set_option linter.unusedVariables false
namespace Go.Proofs.YtblfpppnkdokdaaGreatDoor
open Go.AM
def tA0 : List (FuncId × List AV × AV) := [(19, [oV0, nV0], zV), (19, [oV1, nV0], zV), (19, [oV2, nV0], zV), (19, [oV3, nV0], zV), (19, [oV4, nV0], zV), (19, [oV5, nV0], zV), (19, [oV6, nV0], .tup [.agg [.int .i64 17, .int .i64 0, .int .i64 0, .sl false [[.int .i64 10, .int .i64 0, .int .i64 0, .sl false [[.int .i64 9, .int .i64 10, .int .i64 0, .sl false [[.int .i64 9, .int .i64 0, .int .i64 0, .sl false [[.int .i64 6, .int .i64 0, .int .i64 0, .sl true []], [.int .i64 4, .int .i64 1, .int .i64 0, .sl true []]]], [.int .i64 4, .int .i64 2, .int .i64 0, .sl true []]]]]], [.int .i64 13, .int .i64 0, .int .i64 0, .sl false [[.int .i64 25, .int .i64 0, .int .i64 0, .sl true []]]], [.int .i64 13, .int .i64 0, .int .i64 0, .sl true []]]], .bool true]), (19, [oV7, nV0], zV), (19, [oV8, nV0], .tup [.agg [.int .i64 17, .int .i64 0, .int .i64 0, .sl false [[.int .i64 9, .int .i64 10, .int .i64 0, .sl false [[.int .i64 9, .int .i64 0, .int .i64 0, .sl false [[.int .i64 6, .int .i64 0, .int .i64 0, .sl true []], [.int .i64 4, .int .i64 1, .int .i64 0, .sl true []]]], [.int .i64 4, .int .i64 2, .int .i64 0, .sl true []]]], [.int .i64 13, .int .i64 0, .int .i64 0, .sl true []], [.int .i64 13, .int .i64 0, .int .i64 0, .sl false [[.int .i64 25, .int .i64 0, .int .i64 0, .sl true []]]]]], .bool true]), (19, [oV9, nV0], zV), (19, [vV, nV0], zV), (19, [vU, nV0], zV)]
theorem OK : Runs tA0 := bT [90] (fQ.app fL) (by kernel_rfl)
def tA1 : List (FuncId × List AV × AV) := [(19, [vT, nV0], zV), (19, [vS, nV0], zV), (19, [vR, nV0], zV), (19, [vQ, nV0], zV), (19, [vO, nV0], zV), (19, [vN, nV0], zV), (19, [vM, nV0], zV), (19, [vL, nV0], zV), (19, [vK, nV0], zV), (19, [vJ, nV0], zV), (19, [vI, nV0], zV), (19, [vH, nV0], zV)]
theorem OJ : Runs tA1 := bT [90] (fQ.app fL) (by kernel_rfl)
def tA2 : List (FuncId × List AV × AV) := [(19, [oV0, nV1], zV), (19, [oV1, nV1], zV), (19, [oV2, nV1], .tup [.agg [.int .i64 9, .int .i64 11, .int .i64 0, .sl false [[.int .i64 9, .int .i64 0, .int .i64 0, .sl false [[.int .i64 6, .int .i64 0, .int .i64 0, .sl true []], [.int .i64 4, .int .i64 1, .int .i64 0, .sl true []]]], [.int .i64 4, .int .i64 2, .int .i64 0, .sl true []]]], .bool true]), (19, [oV3, nV1], zV), (19, [oV4, nV1], zV), (19, [oV5, nV1], zV), (19, [oV6, nV1], zV), (19, [oV7, nV1], zV), (19, [oV8, nV1], zV), (19, [oV9, nV1], zV), (19, [vV, nV1], zV), (19, [vU, nV1], zV)]
theorem OI : Runs tA2 := bT [90] (fQ.app fL) (by kernel_rfl)
def tA3 : List (FuncId × List AV × AV) := [(19, [vT, nV1], zV), (19, [vS, nV1], zV), (19, [vR, nV1], zV), (19, [vQ, nV1], zV), (19, [vO, nV1], zV), (19, [vN, nV1], zV), (19, [vM, nV1], zV), (19, [vL, nV1], zV), (19, [vK, nV1], zV), (19, [vJ, nV1], zV), (19, [vI, nV1], zV), (19, [vH, nV1], zV)]
theorem OH : Runs tA3 := bT [90] (fQ.app fL) (by kernel_rfl)
def tA4 : List (FuncId × List AV × AV) := [(19, [oV0, nV2], .tup [.agg [.int .i64 9, .int .i64 1, .int .i64 0, .sl false [[.int .i64 6, .int .i64 0, .int .i64 0, .sl true []], [.int .i64 4, .int .i64 1, .int .i64 0, .sl true []]]], .bool true]), (19, [oV1, nV2], zV), (19, [oV2, nV2], zV), (19, [oV3, nV2], zV), (19, [oV4, nV2], zV), (19, [oV5, nV2], zV), (19, [oV6, nV2], zV), (19, [oV7, nV2], zV), (19, [oV8, nV2], zV), (19, [oV9, nV2], zV), (19, [vV, nV2], zV), (19, [vU, nV2], zV)]
theorem OG : Runs tA4 := bT [90] (fQ.app fL) (by kernel_rfl)
def tA5 : List (FuncId × List AV × AV) := [(19, [vT, nV2], zV), (19, [vS, nV2], zV), (19, [vR, nV2], zV), (19, [vQ, nV2], zV), (19, [vO, nV2], zV), (19, [vN, nV2], zV), (19, [vM, nV2], zV), (19, [vL, nV2], zV), (19, [vK, nV2], zV), (19, [vJ, nV2], zV), (19, [vI, nV2], zV), (19, [vH, nV2], zV)]
theorem OD : Runs tA5 := bT [90] (fQ.app fL) (by kernel_rfl)
def tA6 : List (FuncId × List AV × AV) := [(19, [oV0, nV3], zV), (19, [oV1, nV3], zV), (19, [oV2, nV3], zV), (19, [oV3, nV3], zV), (19, [oV4, nV3], zV), (19, [oV5, nV3], zV), (19, [oV6, nV3], zV), (19, [oV7, nV3], zV), (19, [oV8, nV3], zV), (19, [oV9, nV3], zV), (19, [vV, nV3], zV), (19, [vU, nV3], zV)]
theorem OB : Runs tA6 := bT [90] (fQ.app fL) (by kernel_rfl)
def tA7 : List (FuncId × List AV × AV) := [(19, [vT, nV3], zV), (19, [vS, nV3], zV), (19, [vR, nV3], zV), (19, [vQ, nV3], zV), (19, [vO, nV3], zV), (19, [vN, nV3], zV), (19, [vM, nV3], zV), (19, [vL, nV3], zV), (19, [vK, nV3], zV), (19, [vJ, nV3], zV), (19, [vI, nV3], zV), (19, [vH, nV3], zV)]
theorem OA : Runs tA7 := bT [90] (fQ.app fL) (by kernel_rfl)
def tA8 : List (FuncId × List AV × AV) := [(19, [oV0, nV4], zV), (19, [oV1, nV4], zV), (19, [oV2, nV4], zV), (19, [oV3, nV4], zV), (19, [oV4, nV4], zV), (19, [oV5, nV4], zV), (19, [oV6, nV4], zV), (19, [oV7, nV4], zV), (19, [oV8, nV4], zV), (19, [oV9, nV4], zV), (19, [vV, nV4], zV), (19, [vU, nV4], zV)]
theorem O9 : Runs tA8 := bT [90] (fQ.app fL) (by kernel_rfl)
def tA : List (FuncId × List AV × AV) := (tA0 ++ (tA1 ++ (tA2 ++ (tA3 ++ (tA4 ++ (tA5 ++ (tA6 ++ (tA7 ++ tA8))))))))
theorem Q7 : Runs tA := (OK.app (OJ.app (OI.app (OH.app (OG.app (OD.app (OB.app (OA.app O9))))))))
end Go.Proofs.YtblfpppnkdokdaaGreatDoor
