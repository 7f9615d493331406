import Derived.Test.YthlhepgajgmhgaaDoorR0
set_option maxRecDepth 100000
set_option linter.unusedVariables false
namespace Go.Proofs.YthlhepgajgmhgaaDoor
open Go.AM
theorem r14 : Pure Tryd.prog G0 7 [oV12] (.bool true) := pure_of_call 60 60 _ [] no_table hG0 (by kernel_rfl) (by kernel_rfl) (by kernel_rfl)
theorem r15 : Pure Tryd.prog G0 7 [oV13] (.bool true) := pure_of_call 60 60 _ [] no_table hG0 (by kernel_rfl) (by kernel_rfl) (by kernel_rfl)
theorem r16 : Pure Tryd.prog G0 7 [oV14] (.bool true) := pure_of_call 60 60 _ [] no_table hG0 (by kernel_rfl) (by kernel_rfl) (by kernel_rfl)
theorem r17 : Pure Tryd.prog G0 7 [oV15] (.bool true) := pure_of_call 60 60 _ [] no_table hG0 (by kernel_rfl) (by kernel_rfl) (by kernel_rfl)
theorem r18 : Pure Tryd.prog G0 7 [oV16] (.bool true) := pure_of_call 60 60 _ [] no_table hG0 (by kernel_rfl) (by kernel_rfl) (by kernel_rfl)
theorem r19 : Pure Tryd.prog G0 7 [oV17] (.bool true) := pure_of_call 60 60 _ [] no_table hG0 (by kernel_rfl) (by kernel_rfl) (by kernel_rfl)
theorem r20 : Pure Tryd.prog G0 7 [oV18] (.bool true) := pure_of_call 60 60 _ [] no_table hG0 (by kernel_rfl) (by kernel_rfl) (by kernel_rfl)
theorem r21 : Pure Tryd.prog G0 7 [oV19] (.bool true) := pure_of_call 60 60 _ [] no_table hG0 (by kernel_rfl) (by kernel_rfl) (by kernel_rfl)
theorem r22 : Pure Tryd.prog G0 7 [oV20] (.bool true) := pure_of_call 60 60 _ [] no_table hG0 (by kernel_rfl) (by kernel_rfl) (by kernel_rfl)
theorem r23 : Pure Tryd.prog G0 7 [oV21] (.bool true) := pure_of_call 60 60 _ [] no_table hG0 (by kernel_rfl) (by kernel_rfl) (by kernel_rfl)
theorem r24 : Pure Tryd.prog G0 7 [oV22] (.bool true) := pure_of_call 60 60 _ [] no_table hG0 (by kernel_rfl) (by kernel_rfl) (by kernel_rfl)
theorem r25 : Pure Tryd.prog G0 7 [oV23] (.bool true) := pure_of_call 60 60 _ [] no_table hG0 (by kernel_rfl) (by kernel_rfl) (by kernel_rfl)
end Go.Proofs.YthlhepgajgmhgaaDoor
