import Derived.Test.YtblfpppnkdokdaaGreatDoorR1
import Derived.Test.YtblfpppnkdokdaaGreatDoorR2
set_option maxRecDepth 100000
set_option linter.unusedVariables false
namespace Go.Proofs.YtblfpppnkdokdaaGreatDoor
open Go.AM
def tB0 : List (FuncId × List AV × AV) := [(19, [vT, nV4], zV), (19, [vS, nV4], .tup [.agg [.int .i64 4, .int .i64 0, .int .i64 0, .sl true []], .bool true]), (19, [vR, nV4], zV), (19, [vQ, nV4], zV), (19, [vO, nV4], zV), (19, [vN, nV4], zV), (19, [vM, nV4], zV), (19, [vL, nV4], zV), (19, [vK, nV4], zV), (19, [vJ, nV4], zV), (19, [vI, nV4], zV), (19, [vH, nV4], zV)]
theorem O8 : Runs tB0 := bT [90] (fQ.app fL) (by kernel_rfl)
def tB1 : List (FuncId × List AV × AV) := [(19, [oV0, nV5], zV), (19, [oV1, nV5], zV), (19, [oV2, nV5], zV), (19, [oV3, nV5], zV), (19, [oV4, nV5], zV), (19, [oV5, nV5], zV), (19, [oV6, nV5], zV), (19, [oV7, nV5], zV), (19, [oV8, nV5], zV), (19, [oV9, nV5], zV), (19, [vV, nV5], zV), (19, [vU, nV5], zV)]
theorem O7 : Runs tB1 := bT [90] (fQ.app fL) (by kernel_rfl)
def tB2 : List (FuncId × List AV × AV) := [(19, [vT, nV5], zV), (19, [vS, nV5], zV), (19, [vR, nV5], zV), (19, [vQ, nV5], zV), (19, [vO, nV5], zV), (19, [vN, nV5], zV), (19, [vM, nV5], zV), (19, [vL, nV5], zV), (19, [vK, nV5], zV), (19, [vJ, nV5], zV), (19, [vI, nV5], zV), (19, [vH, nV5], zV)]
theorem O6 : Runs tB2 := bT [90] (fQ.app fL) (by kernel_rfl)
def tB3 : List (FuncId × List AV × AV) := [(19, [oV0, nV6], zV), (19, [oV1, nV6], zV), (19, [oV2, nV6], zV), (19, [oV3, nV6], zV), (19, [oV4, nV6], zV), (19, [oV5, nV6], zV), (19, [oV6, nV6], zV), (19, [oV7, nV6], zV), (19, [oV8, nV6], zV), (19, [oV9, nV6], zV), (19, [vV, nV6], zV), (19, [vU, nV6], zV)]
theorem O5 : Runs tB3 := bT [90] (fQ.app fL) (by kernel_rfl)
def tB4 : List (FuncId × List AV × AV) := [(19, [vT, nV6], zV), (19, [vS, nV6], zV), (19, [vR, nV6], zV), (19, [vQ, nV6], zV), (19, [vO, nV6], zV), (19, [vN, nV6], zV), (19, [vM, nV6], zV), (19, [vL, nV6], zV), (19, [vK, nV6], zV), (19, [vJ, nV6], zV), (19, [vI, nV6], zV), (19, [vH, nV6], zV)]
theorem O4 : Runs tB4 := bT [90] (fQ.app fL) (by kernel_rfl)
def tB5 : List (FuncId × List AV × AV) := [(19, [oV0, nV7], zV), (19, [oV1, nV7], zV), (19, [oV2, nV7], zV), (19, [oV3, nV7], zV), (19, [oV4, nV7], zV), (19, [oV5, nV7], zV), (19, [oV6, nV7], zV), (19, [oV7, nV7], zV), (19, [oV8, nV7], zV), (19, [oV9, nV7], zV), (19, [vV, nV7], zV), (19, [vU, nV7], zV)]
theorem O3 : Runs tB5 := bT [90] (fQ.app fL) (by kernel_rfl)
def tB6 : List (FuncId × List AV × AV) := [(19, [vT, nV7], zV), (19, [vS, nV7], zV), (19, [vR, nV7], zV), (19, [vQ, nV7], zV), (19, [vO, nV7], zV), (19, [vN, nV7], zV), (19, [vM, nV7], zV), (19, [vL, nV7], zV), (19, [vK, nV7], zV), (19, [vJ, nV7], zV), (19, [vI, nV7], zV), (19, [vH, nV7], zV)]
theorem O2 : Runs tB6 := bT [90] (fQ.app fL) (by kernel_rfl)
def tB7 : List (FuncId × List AV × AV) := [(19, [oV0, nV8], zV), (19, [oV1, nV8], zV), (19, [oV2, nV8], zV), (19, [oV3, nV8], zV), (19, [oV4, nV8], zV), (19, [oV5, nV8], zV), (19, [oV6, nV8], zV), (19, [oV7, nV8], zV), (19, [oV8, nV8], zV), (19, [oV9, nV8], zV), (19, [vV, nV8], zV), (19, [vU, nV8], zV)]
theorem O1 : Runs tB7 := bT [90] (fQ.app fL) (by kernel_rfl)
def tB8 : List (FuncId × List AV × AV) := [(19, [vT, nV8], zV), (19, [vS, nV8], zV), (19, [vR, nV8], zV), (19, [vQ, nV8], zV), (19, [vO, nV8], zV), (19, [vN, nV8], zV), (19, [vM, nV8], zV), (19, [vL, nV8], zV), (19, [vK, nV8], zV), (19, [vJ, nV8], zV), (19, [vI, nV8], zV), (19, [vH, nV8], zV)]
theorem O0 : Runs tB8 := bT [90] (fQ.app fL) (by kernel_rfl)
def tB : List (FuncId × List AV × AV) := (tB0 ++ (tB1 ++ (tB2 ++ (tB3 ++ (tB4 ++ (tB5 ++ (tB6 ++ (tB7 ++ tB8))))))))
theorem Q6 : Runs tB := (O8.app (O7.app (O6.app (O5.app (O4.app (O3.app (O2.app (O1.app O0))))))))
end Go.Proofs.YtblfpppnkdokdaaGreatDoor
