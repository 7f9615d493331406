import Derived.Test.YtpdibmopbpcfdaaDoorR0
set_option maxRecDepth 100000
set_option linter.unusedVariables false
namespace Go.Proofs.YtpdibmopbpcfdaaDoor
open Go.AM
theorem r1 : Pure Tryd.prog G0 27 [oV0] (.bool true) := pure_of_call 60 60 _ [] no_table hG0 (by kernel_rfl) (by kernel_rfl) (by kernel_rfl)
theorem r2 : Pure Tryd.prog G0 27 [oV1] (.bool true) := pure_of_call 60 60 _ [] no_table hG0 (by kernel_rfl) (by kernel_rfl) (by kernel_rfl)
theorem r3 : Pure Tryd.prog G0 27 [oV2] (.bool true) := pure_of_call 60 60 _ [] no_table hG0 (by kernel_rfl) (by kernel_rfl) (by kernel_rfl)
theorem r4 : Pure Tryd.prog G0 27 [oV3] (.bool true) := pure_of_call 60 60 _ [] no_table hG0 (by kernel_rfl) (by kernel_rfl) (by kernel_rfl)
theorem r5 : Pure Tryd.prog G0 27 [oV4] (.bool true) := pure_of_call 60 60 _ [] no_table hG0 (by kernel_rfl) (by kernel_rfl) (by kernel_rfl)
theorem r6 : Pure Tryd.prog G0 27 [oV5] (.bool true) := pure_of_call 60 60 _ [] no_table hG0 (by kernel_rfl) (by kernel_rfl) (by kernel_rfl)
theorem r7 : Pure Tryd.prog G0 27 [oV6] (.bool true) := pure_of_call 60 60 _ [] no_table hG0 (by kernel_rfl) (by kernel_rfl) (by kernel_rfl)
theorem r8 : Pure Tryd.prog G0 27 [oV7] (.bool true) := pure_of_call 60 60 _ [] no_table hG0 (by kernel_rfl) (by kernel_rfl) (by kernel_rfl)
theorem r9 : Pure Tryd.prog G0 27 [oV8] (.bool true) := pure_of_call 60 60 _ [] no_table hG0 (by kernel_rfl) (by kernel_rfl) (by kernel_rfl)
theorem r10 : Pure Tryd.prog G0 27 [oV9] (.bool true) := pure_of_call 60 60 _ [] no_table hG0 (by kernel_rfl) (by kernel_rfl) (by kernel_rfl)
theorem r11 : Pure Tryd.prog G0 27 [oV10] (.bool true) := pure_of_call 60 60 _ [] no_table hG0 (by kernel_rfl) (by kernel_rfl) (by kernel_rfl)
theorem r12 : Pure Tryd.prog G0 27 [oV11] (.bool true) := pure_of_call 60 60 _ [] no_table hG0 (by kernel_rfl) (by kernel_rfl) (by kernel_rfl)
theorem r13 : Pure Tryd.prog G0 27 [oV12] (.bool true) := pure_of_call 60 60 _ [] no_table hG0 (by kernel_rfl) (by kernel_rfl) (by kernel_rfl)
theorem r14 : Pure Tryd.prog G0 27 [oV13] (.bool true) := pure_of_call 60 60 _ [] no_table hG0 (by kernel_rfl) (by kernel_rfl) (by kernel_rfl)
theorem r15 : Pure Tryd.prog G0 27 [oV14] (.bool true) := pure_of_call 60 60 _ [] no_table hG0 (by kernel_rfl) (by kernel_rfl) (by kernel_rfl)
theorem r16 : Pure Tryd.prog G0 27 [oV15] (.bool true) := pure_of_call 60 60 _ [] no_table hG0 (by kernel_rfl) (by kernel_rfl) (by kernel_rfl)
theorem r17 : Pure Tryd.prog G0 27 [oV16] (.bool true) := pure_of_call 60 60 _ [] no_table hG0 (by kernel_rfl) (by kernel_rfl) (by kernel_rfl)
theorem r18 : Pure Tryd.prog G0 27 [oV17] (.bool true) := pure_of_call 60 60 _ [] no_table hG0 (by kernel_rfl) (by kernel_rfl) (by kernel_rfl)
theorem r19 : Pure Tryd.prog G0 27 [oV18] (.bool true) := pure_of_call 60 60 _ [] no_table hG0 (by kernel_rfl) (by kernel_rfl) (by kernel_rfl)
theorem r20 : Pure Tryd.prog G0 27 [oV19] (.bool true) := pure_of_call 60 60 _ [] no_table hG0 (by kernel_rfl) (by kernel_rfl) (by kernel_rfl)
theorem r21 : Pure Tryd.prog G0 27 [oV20] (.bool true) := pure_of_call 60 60 _ [] no_table hG0 (by kernel_rfl) (by kernel_rfl) (by kernel_rfl)
theorem r22 : Pure Tryd.prog G0 27 [oV21] (.bool true) := pure_of_call 60 60 _ [] no_table hG0 (by kernel_rfl) (by kernel_rfl) (by kernel_rfl)
theorem r23 : Pure Tryd.prog G0 27 [oV22] (.bool true) := pure_of_call 60 60 _ [] no_table hG0 (by kernel_rfl) (by kernel_rfl) (by kernel_rfl)
theorem r24 : Pure Tryd.prog G0 27 [oV23] (.bool true) := pure_of_call 60 60 _ [] no_table hG0 (by kernel_rfl) (by kernel_rfl) (by kernel_rfl)
end Go.Proofs.YtpdibmopbpcfdaaDoor
