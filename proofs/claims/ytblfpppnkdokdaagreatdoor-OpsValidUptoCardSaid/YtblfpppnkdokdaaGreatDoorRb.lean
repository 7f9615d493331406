import Derived.Test.YtblfpppnkdokdaaGreatDoorR1
import Derived.Test.YtblfpppnkdokdaaGreatDoorR2
set_option maxRecDepth 100000
set_option linter.unusedVariables false
namespace Go.Proofs.YtblfpppnkdokdaaGreatDoor
open Go.AM
def tB0 : List (FuncId × List AV × AV) := [(19, [oV12, nV4], zV), (19, [oV13, nV4], .tup [.agg [.int .i64 4, .int .i64 0, .int .i64 0, .sl true []], .bool true]), (19, [oV14, nV4], zV), (19, [oV15, nV4], zV), (19, [oV16, nV4], zV), (19, [oV17, nV4], zV), (19, [oV18, nV4], zV), (19, [oV19, nV4], zV), (19, [oV20, nV4], zV), (19, [oV21, nV4], zV), (19, [oV22, nV4], zV), (19, [oV23, nV4], zV)]
theorem tB0_ok : Runs tB0 := runs_ok [90] (tV_ok.app tW_ok) (by kernel_rfl)
def tB1 : List (FuncId × List AV × AV) := [(19, [oV0, nV5], zV), (19, [oV1, nV5], zV), (19, [oV2, nV5], zV), (19, [oV3, nV5], zV), (19, [oV4, nV5], zV), (19, [oV5, nV5], zV), (19, [oV6, nV5], zV), (19, [oV7, nV5], zV), (19, [oV8, nV5], zV), (19, [oV9, nV5], zV), (19, [oV10, nV5], zV), (19, [oV11, nV5], zV)]
theorem tB1_ok : Runs tB1 := runs_ok [90] (tV_ok.app tW_ok) (by kernel_rfl)
def tB2 : List (FuncId × List AV × AV) := [(19, [oV12, nV5], zV), (19, [oV13, nV5], zV), (19, [oV14, nV5], zV), (19, [oV15, nV5], zV), (19, [oV16, nV5], zV), (19, [oV17, nV5], zV), (19, [oV18, nV5], zV), (19, [oV19, nV5], zV), (19, [oV20, nV5], zV), (19, [oV21, nV5], zV), (19, [oV22, nV5], zV), (19, [oV23, nV5], zV)]
theorem tB2_ok : Runs tB2 := runs_ok [90] (tV_ok.app tW_ok) (by kernel_rfl)
def tB3 : List (FuncId × List AV × AV) := [(19, [oV0, nV6], zV), (19, [oV1, nV6], zV), (19, [oV2, nV6], zV), (19, [oV3, nV6], zV), (19, [oV4, nV6], zV), (19, [oV5, nV6], zV), (19, [oV6, nV6], zV), (19, [oV7, nV6], zV), (19, [oV8, nV6], zV), (19, [oV9, nV6], zV), (19, [oV10, nV6], zV), (19, [oV11, nV6], zV)]
theorem tB3_ok : Runs tB3 := runs_ok [90] (tV_ok.app tW_ok) (by kernel_rfl)
def tB4 : List (FuncId × List AV × AV) := [(19, [oV12, nV6], zV), (19, [oV13, nV6], zV), (19, [oV14, nV6], zV), (19, [oV15, nV6], zV), (19, [oV16, nV6], zV), (19, [oV17, nV6], zV), (19, [oV18, nV6], zV), (19, [oV19, nV6], zV), (19, [oV20, nV6], zV), (19, [oV21, nV6], zV), (19, [oV22, nV6], zV), (19, [oV23, nV6], zV)]
theorem tB4_ok : Runs tB4 := runs_ok [90] (tV_ok.app tW_ok) (by kernel_rfl)
def tB5 : List (FuncId × List AV × AV) := [(19, [oV0, nV7], zV), (19, [oV1, nV7], zV), (19, [oV2, nV7], zV), (19, [oV3, nV7], zV), (19, [oV4, nV7], zV), (19, [oV5, nV7], zV), (19, [oV6, nV7], zV), (19, [oV7, nV7], zV), (19, [oV8, nV7], zV), (19, [oV9, nV7], zV), (19, [oV10, nV7], zV), (19, [oV11, nV7], zV)]
theorem tB5_ok : Runs tB5 := runs_ok [90] (tV_ok.app tW_ok) (by kernel_rfl)
def tB6 : List (FuncId × List AV × AV) := [(19, [oV12, nV7], zV), (19, [oV13, nV7], zV), (19, [oV14, nV7], zV), (19, [oV15, nV7], zV), (19, [oV16, nV7], zV), (19, [oV17, nV7], zV), (19, [oV18, nV7], zV), (19, [oV19, nV7], zV), (19, [oV20, nV7], zV), (19, [oV21, nV7], zV), (19, [oV22, nV7], zV), (19, [oV23, nV7], zV)]
theorem tB6_ok : Runs tB6 := runs_ok [90] (tV_ok.app tW_ok) (by kernel_rfl)
def tB7 : List (FuncId × List AV × AV) := [(19, [oV0, nV8], zV), (19, [oV1, nV8], zV), (19, [oV2, nV8], zV), (19, [oV3, nV8], zV), (19, [oV4, nV8], zV), (19, [oV5, nV8], zV), (19, [oV6, nV8], zV), (19, [oV7, nV8], zV), (19, [oV8, nV8], zV), (19, [oV9, nV8], zV), (19, [oV10, nV8], zV), (19, [oV11, nV8], zV)]
theorem tB7_ok : Runs tB7 := runs_ok [90] (tV_ok.app tW_ok) (by kernel_rfl)
def tB8 : List (FuncId × List AV × AV) := [(19, [oV12, nV8], zV), (19, [oV13, nV8], zV), (19, [oV14, nV8], zV), (19, [oV15, nV8], zV), (19, [oV16, nV8], zV), (19, [oV17, nV8], zV), (19, [oV18, nV8], zV), (19, [oV19, nV8], zV), (19, [oV20, nV8], zV), (19, [oV21, nV8], zV), (19, [oV22, nV8], zV), (19, [oV23, nV8], zV)]
theorem tB8_ok : Runs tB8 := runs_ok [90] (tV_ok.app tW_ok) (by kernel_rfl)
def tB : List (FuncId × List AV × AV) := (tB0 ++ (tB1 ++ (tB2 ++ (tB3 ++ (tB4 ++ (tB5 ++ (tB6 ++ (tB7 ++ tB8))))))))
theorem tB_ok : Runs tB := (tB0_ok.app (tB1_ok.app (tB2_ok.app (tB3_ok.app (tB4_ok.app (tB5_ok.app (tB6_ok.app (tB7_ok.app tB8_ok))))))))
end Go.Proofs.YtblfpppnkdokdaaGreatDoor
