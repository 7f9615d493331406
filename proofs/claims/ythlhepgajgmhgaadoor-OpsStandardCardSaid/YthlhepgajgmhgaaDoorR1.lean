import Derived.Test.YthlhepgajgmhgaaDoorR0
set_option maxRecDepth 100000
set_option linter.unusedVariables false
namespace Go.Proofs.YthlhepgajgmhgaaDoor
open Go.AM
theorem r2 : Pure Tryd.prog G0 7 [oV0] (.bool true) := pure_of_call 60 60 _ [] no_table hG0 (by kernel_rfl) (by kernel_rfl) (by kernel_rfl)
theorem r3 : Pure Tryd.prog G0 7 [oV1] (.bool true) := pure_of_call 60 60 _ [] no_table hG0 (by kernel_rfl) (by kernel_rfl) (by kernel_rfl)
theorem r4 : Pure Tryd.prog G0 7 [oV2] (.bool true) := pure_of_call 60 60 _ [] no_table hG0 (by kernel_rfl) (by kernel_rfl) (by kernel_rfl)
theorem r5 : Pure Tryd.prog G0 7 [oV3] (.bool true) := pure_of_call 60 60 _ [] no_table hG0 (by kernel_rfl) (by kernel_rfl) (by kernel_rfl)
theorem r6 : Pure Tryd.prog G0 7 [oV4] (.bool true) := pure_of_call 60 60 _ [] no_table hG0 (by kernel_rfl) (by kernel_rfl) (by kernel_rfl)
theorem r7 : Pure Tryd.prog G0 7 [oV5] (.bool true) := pure_of_call 60 60 _ [] no_table hG0 (by kernel_rfl) (by kernel_rfl) (by kernel_rfl)
theorem r8 : Pure Tryd.prog G0 7 [oV6] (.bool true) := pure_of_call 60 60 _ [] no_table hG0 (by kernel_rfl) (by kernel_rfl) (by kernel_rfl)
theorem r9 : Pure Tryd.prog G0 7 [oV7] (.bool true) := pure_of_call 60 60 _ [] no_table hG0 (by kernel_rfl) (by kernel_rfl) (by kernel_rfl)
theorem r10 : Pure Tryd.prog G0 7 [oV8] (.bool true) := pure_of_call 60 60 _ [] no_table hG0 (by kernel_rfl) (by kernel_rfl) (by kernel_rfl)
theorem r11 : Pure Tryd.prog G0 7 [oV9] (.bool true) := pure_of_call 60 60 _ [] no_table hG0 (by kernel_rfl) (by kernel_rfl) (by kernel_rfl)
theorem r12 : Pure Tryd.prog G0 7 [oV10] (.bool true) := pure_of_call 60 60 _ [] no_table hG0 (by kernel_rfl) (by kernel_rfl) (by kernel_rfl)
theorem r13 : Pure Tryd.prog G0 7 [oV11] (.bool true) := pure_of_call 60 60 _ [] no_table hG0 (by kernel_rfl) (by kernel_rfl) (by kernel_rfl)
end Go.Proofs.YthlhepgajgmhgaaDoor
