/-
  FACTS ON THE TYPES OF THIS SEAT's TRANSLATION, laid by program (gen_types.py).
-/
import Derived.Test.YtgenkkejlggmnaaRows
import Derived.Test.YtgenkkejlggmnaaAB
set_option linter.unusedVariables false
set_option maxRecDepth 100000
namespace Go.Proofs.Ytgenkkejlggmnaa
open Go.AM
theorem Try.ty_size1 : tsize Try.prog 1 = some 1 := by kernel_rfl
theorem Try.ty_agg1 : tagg Try.prog 1 = some false := by kernel_rfl
theorem Try.ty_zero1 : tzero Try.prog 1 = some .nilfn := by kernel_rfl
theorem Try.ty_size2 : tsize Try.prog 2 = some 1 := by kernel_rfl
theorem Try.ty_bytes2 : tbytes Try.prog 2 = some 8 := by kernel_rfl
theorem Try.ty_agg2 : tagg Try.prog 2 = some false := by kernel_rfl
theorem Try.ty_zero2 : tzero Try.prog 2 = some (.int .i64 0) := by kernel_rfl
theorem Try.ty_sl2 : isSlice Try.prog 2 = false := by kernel_rfl
theorem Try.ty_b2 : isBool Try.prog 2 = false := by kernel_rfl
theorem Try.ty_u2 : Try.prog.underlying 2 = some (.int .i64) := by kernel_rfl
theorem Try.ty_size3 : tsize Try.prog 3 = some 1 := by kernel_rfl
theorem Try.ty_bytes3 : tbytes Try.prog 3 = some 8 := by kernel_rfl
theorem Try.ty_agg3 : tagg Try.prog 3 = some false := by kernel_rfl
theorem Try.ty_zero3 : tzero Try.prog 3 = some (.int .i64 0) := by kernel_rfl
theorem Try.ty_sl3 : isSlice Try.prog 3 = false := by kernel_rfl
theorem Try.ty_b3 : isBool Try.prog 3 = false := by kernel_rfl
theorem Try.ty_u3 : Try.prog.underlying 3 = some (.int .i64) := by kernel_rfl
theorem Try.ty_size4 : tsize Try.prog 4 = some 1 := by kernel_rfl
theorem Try.ty_bytes4 : tbytes Try.prog 4 = some 1 := by kernel_rfl
theorem Try.ty_agg4 : tagg Try.prog 4 = some false := by kernel_rfl
theorem Try.ty_zero4 : tzero Try.prog 4 = some (.bool false) := by kernel_rfl
theorem Try.ty_sl4 : isSlice Try.prog 4 = false := by kernel_rfl
theorem Try.ty_b4 : isBool Try.prog 4 = true := by kernel_rfl
theorem Try.ty_size5 : tsize Try.prog 5 = some 1 := by kernel_rfl
theorem Try.ty_bytes5 : tbytes Try.prog 5 = some 1 := by kernel_rfl
theorem Try.ty_agg5 : tagg Try.prog 5 = some false := by kernel_rfl
theorem Try.ty_zero5 : tzero Try.prog 5 = some (.int .u8 0) := by kernel_rfl
theorem Try.ty_sl5 : isSlice Try.prog 5 = false := by kernel_rfl
theorem Try.ty_b5 : isBool Try.prog 5 = false := by kernel_rfl
theorem Try.ty_u5 : Try.prog.underlying 5 = some (.int .u8) := by kernel_rfl
theorem Try.ty_size6 : tsize Try.prog 6 = some 1 := by kernel_rfl
theorem Try.ty_bytes6 : tbytes Try.prog 6 = some 1 := by kernel_rfl
theorem Try.ty_agg6 : tagg Try.prog 6 = some false := by kernel_rfl
theorem Try.ty_zero6 : tzero Try.prog 6 = some (.int .u8 0) := by kernel_rfl
theorem Try.ty_sl6 : isSlice Try.prog 6 = false := by kernel_rfl
theorem Try.ty_b6 : isBool Try.prog 6 = false := by kernel_rfl
theorem Try.ty_u6 : Try.prog.underlying 6 = some (.int .u8) := by kernel_rfl
theorem Try.ty_size7 : tsize Try.prog 7 = some 4 := by kernel_rfl
theorem Try.ty_bytes7 : tbytes Try.prog 7 = some 24 := by kernel_rfl
theorem Try.ty_agg7 : tagg Try.prog 7 = some true := by kernel_rfl
theorem Try.ty_zero7 : tzero Try.prog 7 = some (.agg [.int .i64 0, .int .i64 0, .bool false, .int .u8 0]) := by kernel_rfl
theorem Try.ty_sl7 : isSlice Try.prog 7 = false := by kernel_rfl
theorem Try.ty_b7 : isBool Try.prog 7 = false := by kernel_rfl
theorem Try.ty_f7_0 : (fieldOf Try.prog 7 0).map (fun d => (d.type, d.offset)) = some (2, 0) := by kernel_rfl
theorem Try.ty_fo7_0 : ∃ d, fieldOf Try.prog 7 0 = some d ∧ d.type = 2 ∧ d.offset = 0 := fieldOf_some Try.ty_f7_0
theorem Try.ty_fa7_0 (x : AV) (rows : Nat → ARow) : aFieldAddr Try.prog 7 x 0 rows = fieldAddrA Try.prog 2 0 x rows := aFieldAddr_of Try.ty_fo7_0 x rows
theorem Try.ty_ff7_0 (x : AV) : aField Try.prog 7 x 0 = fieldA Try.prog 2 0 x := aField_of Try.ty_fo7_0 x
theorem Try.ty_f7_1 : (fieldOf Try.prog 7 1).map (fun d => (d.type, d.offset)) = some (3, 1) := by kernel_rfl
theorem Try.ty_fo7_1 : ∃ d, fieldOf Try.prog 7 1 = some d ∧ d.type = 3 ∧ d.offset = 1 := fieldOf_some Try.ty_f7_1
theorem Try.ty_fa7_1 (x : AV) (rows : Nat → ARow) : aFieldAddr Try.prog 7 x 1 rows = fieldAddrA Try.prog 3 1 x rows := aFieldAddr_of Try.ty_fo7_1 x rows
theorem Try.ty_ff7_1 (x : AV) : aField Try.prog 7 x 1 = fieldA Try.prog 3 1 x := aField_of Try.ty_fo7_1 x
theorem Try.ty_f7_2 : (fieldOf Try.prog 7 2).map (fun d => (d.type, d.offset)) = some (4, 2) := by kernel_rfl
theorem Try.ty_fo7_2 : ∃ d, fieldOf Try.prog 7 2 = some d ∧ d.type = 4 ∧ d.offset = 2 := fieldOf_some Try.ty_f7_2
theorem Try.ty_fa7_2 (x : AV) (rows : Nat → ARow) : aFieldAddr Try.prog 7 x 2 rows = fieldAddrA Try.prog 4 2 x rows := aFieldAddr_of Try.ty_fo7_2 x rows
theorem Try.ty_ff7_2 (x : AV) : aField Try.prog 7 x 2 = fieldA Try.prog 4 2 x := aField_of Try.ty_fo7_2 x
theorem Try.ty_f7_3 : (fieldOf Try.prog 7 3).map (fun d => (d.type, d.offset)) = some (6, 3) := by kernel_rfl
theorem Try.ty_fo7_3 : ∃ d, fieldOf Try.prog 7 3 = some d ∧ d.type = 6 ∧ d.offset = 3 := fieldOf_some Try.ty_f7_3
theorem Try.ty_fa7_3 (x : AV) (rows : Nat → ARow) : aFieldAddr Try.prog 7 x 3 rows = fieldAddrA Try.prog 6 3 x rows := aFieldAddr_of Try.ty_fo7_3 x rows
theorem Try.ty_ff7_3 (x : AV) : aField Try.prog 7 x 3 = fieldA Try.prog 6 3 x := aField_of Try.ty_fo7_3 x
theorem Try.ty_bu7 (parts : List (Nat × AV)) : aBuild Try.prog 7 parts = (fillA (fun i => ([(0, 1), (1, 1), (2, 1), (3, 1)] : List (Nat × Nat))[i]?) [.int .i64 0, .int .i64 0, .bool false, .int .u8 0] parts).map .agg := aBuild_struct (by kernel_rfl) (by kernel_rfl)
theorem Try.ty_size8 : tsize Try.prog 8 = some 4 := by kernel_rfl
theorem Try.ty_bytes8 : tbytes Try.prog 8 = some 24 := by kernel_rfl
theorem Try.ty_agg8 : tagg Try.prog 8 = some true := by kernel_rfl
theorem Try.ty_zero8 : tzero Try.prog 8 = some (.agg [.int .i64 0, .int .i64 0, .bool false, .int .u8 0]) := by kernel_rfl
theorem Try.ty_sl8 : isSlice Try.prog 8 = false := by kernel_rfl
theorem Try.ty_b8 : isBool Try.prog 8 = false := by kernel_rfl
theorem Try.ty_f8_0 : (fieldOf Try.prog 8 0).map (fun d => (d.type, d.offset)) = some (2, 0) := by kernel_rfl
theorem Try.ty_fo8_0 : ∃ d, fieldOf Try.prog 8 0 = some d ∧ d.type = 2 ∧ d.offset = 0 := fieldOf_some Try.ty_f8_0
theorem Try.ty_fa8_0 (x : AV) (rows : Nat → ARow) : aFieldAddr Try.prog 8 x 0 rows = fieldAddrA Try.prog 2 0 x rows := aFieldAddr_of Try.ty_fo8_0 x rows
theorem Try.ty_ff8_0 (x : AV) : aField Try.prog 8 x 0 = fieldA Try.prog 2 0 x := aField_of Try.ty_fo8_0 x
theorem Try.ty_f8_1 : (fieldOf Try.prog 8 1).map (fun d => (d.type, d.offset)) = some (3, 1) := by kernel_rfl
theorem Try.ty_fo8_1 : ∃ d, fieldOf Try.prog 8 1 = some d ∧ d.type = 3 ∧ d.offset = 1 := fieldOf_some Try.ty_f8_1
theorem Try.ty_fa8_1 (x : AV) (rows : Nat → ARow) : aFieldAddr Try.prog 8 x 1 rows = fieldAddrA Try.prog 3 1 x rows := aFieldAddr_of Try.ty_fo8_1 x rows
theorem Try.ty_ff8_1 (x : AV) : aField Try.prog 8 x 1 = fieldA Try.prog 3 1 x := aField_of Try.ty_fo8_1 x
theorem Try.ty_f8_2 : (fieldOf Try.prog 8 2).map (fun d => (d.type, d.offset)) = some (4, 2) := by kernel_rfl
theorem Try.ty_fo8_2 : ∃ d, fieldOf Try.prog 8 2 = some d ∧ d.type = 4 ∧ d.offset = 2 := fieldOf_some Try.ty_f8_2
theorem Try.ty_fa8_2 (x : AV) (rows : Nat → ARow) : aFieldAddr Try.prog 8 x 2 rows = fieldAddrA Try.prog 4 2 x rows := aFieldAddr_of Try.ty_fo8_2 x rows
theorem Try.ty_ff8_2 (x : AV) : aField Try.prog 8 x 2 = fieldA Try.prog 4 2 x := aField_of Try.ty_fo8_2 x
theorem Try.ty_f8_3 : (fieldOf Try.prog 8 3).map (fun d => (d.type, d.offset)) = some (6, 3) := by kernel_rfl
theorem Try.ty_fo8_3 : ∃ d, fieldOf Try.prog 8 3 = some d ∧ d.type = 6 ∧ d.offset = 3 := fieldOf_some Try.ty_f8_3
theorem Try.ty_fa8_3 (x : AV) (rows : Nat → ARow) : aFieldAddr Try.prog 8 x 3 rows = fieldAddrA Try.prog 6 3 x rows := aFieldAddr_of Try.ty_fo8_3 x rows
theorem Try.ty_ff8_3 (x : AV) : aField Try.prog 8 x 3 = fieldA Try.prog 6 3 x := aField_of Try.ty_fo8_3 x
theorem Try.ty_bu8 (parts : List (Nat × AV)) : aBuild Try.prog 8 parts = (fillA (fun i => ([(0, 1), (1, 1), (2, 1), (3, 1)] : List (Nat × Nat))[i]?) [.int .i64 0, .int .i64 0, .bool false, .int .u8 0] parts).map .agg := aBuild_struct (by kernel_rfl) (by kernel_rfl)
theorem Try.ty_size9 : tsize Try.prog 9 = some 1 := by kernel_rfl
theorem Try.ty_bytes9 : tbytes Try.prog 9 = some 16 := by kernel_rfl
theorem Try.ty_agg9 : tagg Try.prog 9 = some false := by kernel_rfl
theorem Try.ty_zero9 : tzero Try.prog 9 = some (.str ByteArray.empty) := by kernel_rfl
theorem Try.ty_sl9 : isSlice Try.prog 9 = false := by kernel_rfl
theorem Try.ty_ni9 : notInt Try.prog 9 = true := by kernel_rfl
theorem Try.ty_b9 : isBool Try.prog 9 = false := by kernel_rfl
theorem Try.ty_u9 : Try.prog.underlying 9 = some (.string) := by kernel_rfl
theorem Try.ty_size10 : tsize Try.prog 10 = some 1 := by kernel_rfl
theorem Try.ty_bytes10 : tbytes Try.prog 10 = some 16 := by kernel_rfl
theorem Try.ty_agg10 : tagg Try.prog 10 = some false := by kernel_rfl
theorem Try.ty_zero10 : tzero Try.prog 10 = some (.str ByteArray.empty) := by kernel_rfl
theorem Try.ty_sl10 : isSlice Try.prog 10 = false := by kernel_rfl
theorem Try.ty_ni10 : notInt Try.prog 10 = true := by kernel_rfl
theorem Try.ty_b10 : isBool Try.prog 10 = false := by kernel_rfl
theorem Try.ty_u10 : Try.prog.underlying 10 = some (.string) := by kernel_rfl
theorem Try.ty_size11 : tsize Try.prog 11 = some 1 := by kernel_rfl
theorem Try.ty_bytes11 : tbytes Try.prog 11 = some 16 := by kernel_rfl
theorem Try.ty_agg11 : tagg Try.prog 11 = some false := by kernel_rfl
theorem Try.ty_zero11 : tzero Try.prog 11 = some (.str ByteArray.empty) := by kernel_rfl
theorem Try.ty_sl11 : isSlice Try.prog 11 = false := by kernel_rfl
theorem Try.ty_ni11 : notInt Try.prog 11 = true := by kernel_rfl
theorem Try.ty_b11 : isBool Try.prog 11 = false := by kernel_rfl
theorem Try.ty_u11 : Try.prog.underlying 11 = some (.string) := by kernel_rfl
theorem Try.ty_size12 : tsize Try.prog 12 = some 1 := by kernel_rfl
theorem Try.ty_bytes12 : tbytes Try.prog 12 = some 8 := by kernel_rfl
theorem Try.ty_agg12 : tagg Try.prog 12 = some false := by kernel_rfl
theorem Try.ty_zero12 : tzero Try.prog 12 = some (.int .u64 0) := by kernel_rfl
theorem Try.ty_sl12 : isSlice Try.prog 12 = false := by kernel_rfl
theorem Try.ty_b12 : isBool Try.prog 12 = false := by kernel_rfl
theorem Try.ty_u12 : Try.prog.underlying 12 = some (.int .u64) := by kernel_rfl
theorem Try.ty_size13 : tsize Try.prog 13 = some 2 := by kernel_rfl
theorem Try.ty_bytes13 : tbytes Try.prog 13 = some 24 := by kernel_rfl
theorem Try.ty_agg13 : tagg Try.prog 13 = some true := by kernel_rfl
theorem Try.ty_zero13 : tzero Try.prog 13 = some (.agg [.str ByteArray.empty, .int .u64 0]) := by kernel_rfl
theorem Try.ty_sl13 : isSlice Try.prog 13 = false := by kernel_rfl
theorem Try.ty_b13 : isBool Try.prog 13 = false := by kernel_rfl
theorem Try.ty_f13_0 : (fieldOf Try.prog 13 0).map (fun d => (d.type, d.offset)) = some (9, 0) := by kernel_rfl
theorem Try.ty_fo13_0 : ∃ d, fieldOf Try.prog 13 0 = some d ∧ d.type = 9 ∧ d.offset = 0 := fieldOf_some Try.ty_f13_0
theorem Try.ty_fa13_0 (x : AV) (rows : Nat → ARow) : aFieldAddr Try.prog 13 x 0 rows = fieldAddrA Try.prog 9 0 x rows := aFieldAddr_of Try.ty_fo13_0 x rows
theorem Try.ty_ff13_0 (x : AV) : aField Try.prog 13 x 0 = fieldA Try.prog 9 0 x := aField_of Try.ty_fo13_0 x
theorem Try.ty_f13_1 : (fieldOf Try.prog 13 1).map (fun d => (d.type, d.offset)) = some (12, 1) := by kernel_rfl
theorem Try.ty_fo13_1 : ∃ d, fieldOf Try.prog 13 1 = some d ∧ d.type = 12 ∧ d.offset = 1 := fieldOf_some Try.ty_f13_1
theorem Try.ty_fa13_1 (x : AV) (rows : Nat → ARow) : aFieldAddr Try.prog 13 x 1 rows = fieldAddrA Try.prog 12 1 x rows := aFieldAddr_of Try.ty_fo13_1 x rows
theorem Try.ty_ff13_1 (x : AV) : aField Try.prog 13 x 1 = fieldA Try.prog 12 1 x := aField_of Try.ty_fo13_1 x
theorem Try.ty_bu13 (parts : List (Nat × AV)) : aBuild Try.prog 13 parts = (fillA (fun i => ([(0, 1), (1, 1)] : List (Nat × Nat))[i]?) [.str ByteArray.empty, .int .u64 0] parts).map .agg := aBuild_struct (by kernel_rfl) (by kernel_rfl)
theorem Try.ty_size14 : tsize Try.prog 14 = some 2 := by kernel_rfl
theorem Try.ty_bytes14 : tbytes Try.prog 14 = some 24 := by kernel_rfl
theorem Try.ty_agg14 : tagg Try.prog 14 = some true := by kernel_rfl
theorem Try.ty_zero14 : tzero Try.prog 14 = some (.agg [.str ByteArray.empty, .int .u64 0]) := by kernel_rfl
theorem Try.ty_sl14 : isSlice Try.prog 14 = false := by kernel_rfl
theorem Try.ty_b14 : isBool Try.prog 14 = false := by kernel_rfl
theorem Try.ty_f14_0 : (fieldOf Try.prog 14 0).map (fun d => (d.type, d.offset)) = some (9, 0) := by kernel_rfl
theorem Try.ty_fo14_0 : ∃ d, fieldOf Try.prog 14 0 = some d ∧ d.type = 9 ∧ d.offset = 0 := fieldOf_some Try.ty_f14_0
theorem Try.ty_fa14_0 (x : AV) (rows : Nat → ARow) : aFieldAddr Try.prog 14 x 0 rows = fieldAddrA Try.prog 9 0 x rows := aFieldAddr_of Try.ty_fo14_0 x rows
theorem Try.ty_ff14_0 (x : AV) : aField Try.prog 14 x 0 = fieldA Try.prog 9 0 x := aField_of Try.ty_fo14_0 x
theorem Try.ty_f14_1 : (fieldOf Try.prog 14 1).map (fun d => (d.type, d.offset)) = some (12, 1) := by kernel_rfl
theorem Try.ty_fo14_1 : ∃ d, fieldOf Try.prog 14 1 = some d ∧ d.type = 12 ∧ d.offset = 1 := fieldOf_some Try.ty_f14_1
theorem Try.ty_fa14_1 (x : AV) (rows : Nat → ARow) : aFieldAddr Try.prog 14 x 1 rows = fieldAddrA Try.prog 12 1 x rows := aFieldAddr_of Try.ty_fo14_1 x rows
theorem Try.ty_ff14_1 (x : AV) : aField Try.prog 14 x 1 = fieldA Try.prog 12 1 x := aField_of Try.ty_fo14_1 x
theorem Try.ty_bu14 (parts : List (Nat × AV)) : aBuild Try.prog 14 parts = (fillA (fun i => ([(0, 1), (1, 1)] : List (Nat × Nat))[i]?) [.str ByteArray.empty, .int .u64 0] parts).map .agg := aBuild_struct (by kernel_rfl) (by kernel_rfl)
theorem Try.ty_size15 : tsize Try.prog 15 = some 1 := by kernel_rfl
theorem Try.ty_bytes15 : tbytes Try.prog 15 = some 8 := by kernel_rfl
theorem Try.ty_agg15 : tagg Try.prog 15 = some false := by kernel_rfl
theorem Try.ty_zero15 : tzero Try.prog 15 = some (.nilptr) := by kernel_rfl
theorem Try.ty_sl15 : isSlice Try.prog 15 = false := by kernel_rfl
theorem Try.ty_b15 : isBool Try.prog 15 = false := by kernel_rfl
theorem Try.ty_size16 : tsize Try.prog 16 = some 1 := by kernel_rfl
theorem Try.ty_bytes16 : tbytes Try.prog 16 = some 8 := by kernel_rfl
theorem Try.ty_agg16 : tagg Try.prog 16 = some false := by kernel_rfl
theorem Try.ty_zero16 : tzero Try.prog 16 = some (.nilptr) := by kernel_rfl
theorem Try.ty_sl16 : isSlice Try.prog 16 = false := by kernel_rfl
theorem Try.ty_b16 : isBool Try.prog 16 = false := by kernel_rfl
theorem Try.ty_size17 : tsize Try.prog 17 = some 1 := by kernel_rfl
theorem Try.ty_bytes17 : tbytes Try.prog 17 = some 8 := by kernel_rfl
theorem Try.ty_agg17 : tagg Try.prog 17 = some false := by kernel_rfl
theorem Try.ty_zero17 : tzero Try.prog 17 = some (.nilptr) := by kernel_rfl
theorem Try.ty_sl17 : isSlice Try.prog 17 = false := by kernel_rfl
theorem Try.ty_b17 : isBool Try.prog 17 = false := by kernel_rfl
theorem Try.ty_size18 : tsize Try.prog 18 = some 1 := by kernel_rfl
theorem Try.ty_bytes18 : tbytes Try.prog 18 = some 8 := by kernel_rfl
theorem Try.ty_agg18 : tagg Try.prog 18 = some true := by kernel_rfl
theorem Try.ty_zero18 : tzero Try.prog 18 = some (.agg [.nilptr]) := by kernel_rfl
theorem Try.ty_sl18 : isSlice Try.prog 18 = false := by kernel_rfl
theorem Try.ty_b18 : isBool Try.prog 18 = false := by kernel_rfl
theorem Try.ty_f18_0 : (fieldOf Try.prog 18 0).map (fun d => (d.type, d.offset)) = some (17, 0) := by kernel_rfl
theorem Try.ty_fo18_0 : ∃ d, fieldOf Try.prog 18 0 = some d ∧ d.type = 17 ∧ d.offset = 0 := fieldOf_some Try.ty_f18_0
theorem Try.ty_fa18_0 (x : AV) (rows : Nat → ARow) : aFieldAddr Try.prog 18 x 0 rows = fieldAddrA Try.prog 17 0 x rows := aFieldAddr_of Try.ty_fo18_0 x rows
theorem Try.ty_ff18_0 (x : AV) : aField Try.prog 18 x 0 = fieldA Try.prog 17 0 x := aField_of Try.ty_fo18_0 x
theorem Try.ty_bu18 (parts : List (Nat × AV)) : aBuild Try.prog 18 parts = (fillA (fun i => ([(0, 1)] : List (Nat × Nat))[i]?) [.nilptr] parts).map .agg := aBuild_struct (by kernel_rfl) (by kernel_rfl)
theorem Try.ty_size19 : tsize Try.prog 19 = some 1 := by kernel_rfl
theorem Try.ty_bytes19 : tbytes Try.prog 19 = some 8 := by kernel_rfl
theorem Try.ty_agg19 : tagg Try.prog 19 = some true := by kernel_rfl
theorem Try.ty_zero19 : tzero Try.prog 19 = some (.agg [.nilptr]) := by kernel_rfl
theorem Try.ty_sl19 : isSlice Try.prog 19 = false := by kernel_rfl
theorem Try.ty_b19 : isBool Try.prog 19 = false := by kernel_rfl
theorem Try.ty_f19_0 : (fieldOf Try.prog 19 0).map (fun d => (d.type, d.offset)) = some (17, 0) := by kernel_rfl
theorem Try.ty_fo19_0 : ∃ d, fieldOf Try.prog 19 0 = some d ∧ d.type = 17 ∧ d.offset = 0 := fieldOf_some Try.ty_f19_0
theorem Try.ty_fa19_0 (x : AV) (rows : Nat → ARow) : aFieldAddr Try.prog 19 x 0 rows = fieldAddrA Try.prog 17 0 x rows := aFieldAddr_of Try.ty_fo19_0 x rows
theorem Try.ty_ff19_0 (x : AV) : aField Try.prog 19 x 0 = fieldA Try.prog 17 0 x := aField_of Try.ty_fo19_0 x
theorem Try.ty_bu19 (parts : List (Nat × AV)) : aBuild Try.prog 19 parts = (fillA (fun i => ([(0, 1)] : List (Nat × Nat))[i]?) [.nilptr] parts).map .agg := aBuild_struct (by kernel_rfl) (by kernel_rfl)
theorem Try.ty_size21 : tsize Try.prog 21 = some 1 := by kernel_rfl
theorem Try.ty_bytes21 : tbytes Try.prog 21 = some 4 := by kernel_rfl
theorem Try.ty_agg21 : tagg Try.prog 21 = some false := by kernel_rfl
theorem Try.ty_zero21 : tzero Try.prog 21 = some (.int .i32 0) := by kernel_rfl
theorem Try.ty_sl21 : isSlice Try.prog 21 = false := by kernel_rfl
theorem Try.ty_b21 : isBool Try.prog 21 = false := by kernel_rfl
theorem Try.ty_u21 : Try.prog.underlying 21 = some (.int .i32) := by kernel_rfl
theorem Try.ty_size22 : tsize Try.prog 22 = some 1 := by kernel_rfl
theorem Try.ty_bytes22 : tbytes Try.prog 22 = some 24 := by kernel_rfl
theorem Try.ty_agg22 : tagg Try.prog 22 = some false := by kernel_rfl
theorem Try.ty_zero22 : tzero Try.prog 22 = some (.sl true []) := by kernel_rfl
theorem Try.ty_elem22 : elemOf' Try.prog 22 = some 3 := by kernel_rfl
theorem Try.ty_sl22 : isSlice Try.prog 22 = true := by kernel_rfl
theorem Try.ty_ni22 : notInt Try.prog 22 = true := by kernel_rfl
theorem Try.ty_b22 : isBool Try.prog 22 = false := by kernel_rfl
theorem Try.ty_u22 : Try.prog.underlying 22 = some (.slice 3) := by kernel_rfl
theorem Try.ty_size23 : tsize Try.prog 23 = some 1 := by kernel_rfl
theorem Try.ty_bytes23 : tbytes Try.prog 23 = some 24 := by kernel_rfl
theorem Try.ty_agg23 : tagg Try.prog 23 = some false := by kernel_rfl
theorem Try.ty_zero23 : tzero Try.prog 23 = some (.sl true []) := by kernel_rfl
theorem Try.ty_elem23 : elemOf' Try.prog 23 = some 50 := by kernel_rfl
theorem Try.ty_sl23 : isSlice Try.prog 23 = true := by kernel_rfl
theorem Try.ty_ni23 : notInt Try.prog 23 = true := by kernel_rfl
theorem Try.ty_b23 : isBool Try.prog 23 = false := by kernel_rfl
theorem Try.ty_u23 : Try.prog.underlying 23 = some (.slice 50) := by kernel_rfl
theorem Try.ty_size24 : tsize Try.prog 24 = some 1 := by kernel_rfl
theorem Try.ty_agg24 : tagg Try.prog 24 = some false := by kernel_rfl
theorem Try.ty_zero24 : tzero Try.prog 24 = some .nilfn := by kernel_rfl
theorem Try.ty_size25 : tsize Try.prog 25 = some 1 := by kernel_rfl
theorem Try.ty_agg25 : tagg Try.prog 25 = some false := by kernel_rfl
theorem Try.ty_zero25 : tzero Try.prog 25 = some .nilfn := by kernel_rfl
theorem Try.ty_size26 : tsize Try.prog 26 = some 1 := by kernel_rfl
theorem Try.ty_bytes26 : tbytes Try.prog 26 = some 24 := by kernel_rfl
theorem Try.ty_agg26 : tagg Try.prog 26 = some false := by kernel_rfl
theorem Try.ty_zero26 : tzero Try.prog 26 = some (.sl true []) := by kernel_rfl
theorem Try.ty_elem26 : elemOf' Try.prog 26 = some 23 := by kernel_rfl
theorem Try.ty_sl26 : isSlice Try.prog 26 = true := by kernel_rfl
theorem Try.ty_ni26 : notInt Try.prog 26 = true := by kernel_rfl
theorem Try.ty_b26 : isBool Try.prog 26 = false := by kernel_rfl
theorem Try.ty_u26 : Try.prog.underlying 26 = some (.slice 23) := by kernel_rfl
theorem Try.ty_size27 : tsize Try.prog 27 = some 1 := by kernel_rfl
theorem Try.ty_agg27 : tagg Try.prog 27 = some false := by kernel_rfl
theorem Try.ty_zero27 : tzero Try.prog 27 = some .nilfn := by kernel_rfl
theorem Try.ty_size28 : tsize Try.prog 28 = some 1 := by kernel_rfl
theorem Try.ty_bytes28 : tbytes Try.prog 28 = some 24 := by kernel_rfl
theorem Try.ty_agg28 : tagg Try.prog 28 = some false := by kernel_rfl
theorem Try.ty_zero28 : tzero Try.prog 28 = some (.sl true []) := by kernel_rfl
theorem Try.ty_elem28 : elemOf' Try.prog 28 = some 57 := by kernel_rfl
theorem Try.ty_sl28 : isSlice Try.prog 28 = true := by kernel_rfl
theorem Try.ty_ni28 : notInt Try.prog 28 = true := by kernel_rfl
theorem Try.ty_b28 : isBool Try.prog 28 = false := by kernel_rfl
theorem Try.ty_u28 : Try.prog.underlying 28 = some (.slice 57) := by kernel_rfl
theorem Try.ty_size29 : tsize Try.prog 29 = some 1 := by kernel_rfl
theorem Try.ty_agg29 : tagg Try.prog 29 = some false := by kernel_rfl
theorem Try.ty_zero29 : tzero Try.prog 29 = some .nilfn := by kernel_rfl
theorem Try.ty_size30 : tsize Try.prog 30 = some 1 := by kernel_rfl
theorem Try.ty_agg30 : tagg Try.prog 30 = some false := by kernel_rfl
theorem Try.ty_zero30 : tzero Try.prog 30 = some .nilfn := by kernel_rfl
theorem Try.ty_size31 : tsize Try.prog 31 = some 1 := by kernel_rfl
theorem Try.ty_agg31 : tagg Try.prog 31 = some false := by kernel_rfl
theorem Try.ty_zero31 : tzero Try.prog 31 = some .nilfn := by kernel_rfl
theorem Try.ty_size32 : tsize Try.prog 32 = some 1 := by kernel_rfl
theorem Try.ty_agg32 : tagg Try.prog 32 = some false := by kernel_rfl
theorem Try.ty_zero32 : tzero Try.prog 32 = some .nilfn := by kernel_rfl
theorem Try.ty_size33 : tsize Try.prog 33 = some 1 := by kernel_rfl
theorem Try.ty_agg33 : tagg Try.prog 33 = some false := by kernel_rfl
theorem Try.ty_zero33 : tzero Try.prog 33 = some .nilfn := by kernel_rfl
theorem Try.ty_size34 : tsize Try.prog 34 = some 1 := by kernel_rfl
theorem Try.ty_agg34 : tagg Try.prog 34 = some false := by kernel_rfl
theorem Try.ty_zero34 : tzero Try.prog 34 = some .nilfn := by kernel_rfl
theorem Try.ty_size35 : tsize Try.prog 35 = some 1 := by kernel_rfl
theorem Try.ty_agg35 : tagg Try.prog 35 = some false := by kernel_rfl
theorem Try.ty_zero35 : tzero Try.prog 35 = some .nilfn := by kernel_rfl
theorem Try.ty_size36 : tsize Try.prog 36 = some 1 := by kernel_rfl
theorem Try.ty_agg36 : tagg Try.prog 36 = some false := by kernel_rfl
theorem Try.ty_zero36 : tzero Try.prog 36 = some .nilfn := by kernel_rfl
theorem Try.ty_size37 : tsize Try.prog 37 = some 1 := by kernel_rfl
theorem Try.ty_agg37 : tagg Try.prog 37 = some false := by kernel_rfl
theorem Try.ty_zero37 : tzero Try.prog 37 = some .nilfn := by kernel_rfl
theorem Try.ty_size38 : tsize Try.prog 38 = some 1 := by kernel_rfl
theorem Try.ty_bytes38 : tbytes Try.prog 38 = some 8 := by kernel_rfl
theorem Try.ty_agg38 : tagg Try.prog 38 = some false := by kernel_rfl
theorem Try.ty_zero38 : tzero Try.prog 38 = some (.int .i64 0) := by kernel_rfl
theorem Try.ty_sl38 : isSlice Try.prog 38 = false := by kernel_rfl
theorem Try.ty_b38 : isBool Try.prog 38 = false := by kernel_rfl
theorem Try.ty_u38 : Try.prog.underlying 38 = some (.int .i64) := by kernel_rfl
theorem Try.ty_size40 : tsize Try.prog 40 = some 1 := by kernel_rfl
theorem Try.ty_agg40 : tagg Try.prog 40 = some false := by kernel_rfl
theorem Try.ty_zero40 : tzero Try.prog 40 = some .nilfn := by kernel_rfl
theorem Try.ty_size41 : tsize Try.prog 41 = some 1 := by kernel_rfl
theorem Try.ty_agg41 : tagg Try.prog 41 = some false := by kernel_rfl
theorem Try.ty_zero41 : tzero Try.prog 41 = some .nilfn := by kernel_rfl
theorem Try.ty_size43 : tsize Try.prog 43 = some 1 := by kernel_rfl
theorem Try.ty_agg43 : tagg Try.prog 43 = some false := by kernel_rfl
theorem Try.ty_zero43 : tzero Try.prog 43 = some .nilfn := by kernel_rfl
theorem Try.ty_size44 : tsize Try.prog 44 = some 1 := by kernel_rfl
theorem Try.ty_agg44 : tagg Try.prog 44 = some false := by kernel_rfl
theorem Try.ty_zero44 : tzero Try.prog 44 = some .nilfn := by kernel_rfl
theorem Try.ty_size45 : tsize Try.prog 45 = some 1 := by kernel_rfl
theorem Try.ty_agg45 : tagg Try.prog 45 = some false := by kernel_rfl
theorem Try.ty_zero45 : tzero Try.prog 45 = some .nilfn := by kernel_rfl
theorem Try.ty_size46 : tsize Try.prog 46 = some 1 := by kernel_rfl
theorem Try.ty_bytes46 : tbytes Try.prog 46 = some 24 := by kernel_rfl
theorem Try.ty_agg46 : tagg Try.prog 46 = some false := by kernel_rfl
theorem Try.ty_zero46 : tzero Try.prog 46 = some (.sl true []) := by kernel_rfl
theorem Try.ty_elem46 : elemOf' Try.prog 46 = some 48 := by kernel_rfl
theorem Try.ty_sl46 : isSlice Try.prog 46 = true := by kernel_rfl
theorem Try.ty_ni46 : notInt Try.prog 46 = true := by kernel_rfl
theorem Try.ty_b46 : isBool Try.prog 46 = false := by kernel_rfl
theorem Try.ty_u46 : Try.prog.underlying 46 = some (.slice 48) := by kernel_rfl
theorem Try.ty_size47 : tsize Try.prog 47 = some 4 := by kernel_rfl
theorem Try.ty_bytes47 : tbytes Try.prog 47 = some 48 := by kernel_rfl
theorem Try.ty_agg47 : tagg Try.prog 47 = some true := by kernel_rfl
theorem Try.ty_zero47 : tzero Try.prog 47 = some (.agg [.int .i64 0, .int .i64 0, .int .i64 0, .sl true []]) := by kernel_rfl
theorem Try.ty_sl47 : isSlice Try.prog 47 = false := by kernel_rfl
theorem Try.ty_b47 : isBool Try.prog 47 = false := by kernel_rfl
theorem Try.ty_f47_0 : (fieldOf Try.prog 47 0).map (fun d => (d.type, d.offset)) = some (3, 0) := by kernel_rfl
theorem Try.ty_fo47_0 : ∃ d, fieldOf Try.prog 47 0 = some d ∧ d.type = 3 ∧ d.offset = 0 := fieldOf_some Try.ty_f47_0
theorem Try.ty_fa47_0 (x : AV) (rows : Nat → ARow) : aFieldAddr Try.prog 47 x 0 rows = fieldAddrA Try.prog 3 0 x rows := aFieldAddr_of Try.ty_fo47_0 x rows
theorem Try.ty_ff47_0 (x : AV) : aField Try.prog 47 x 0 = fieldA Try.prog 3 0 x := aField_of Try.ty_fo47_0 x
theorem Try.ty_f47_1 : (fieldOf Try.prog 47 1).map (fun d => (d.type, d.offset)) = some (3, 1) := by kernel_rfl
theorem Try.ty_fo47_1 : ∃ d, fieldOf Try.prog 47 1 = some d ∧ d.type = 3 ∧ d.offset = 1 := fieldOf_some Try.ty_f47_1
theorem Try.ty_fa47_1 (x : AV) (rows : Nat → ARow) : aFieldAddr Try.prog 47 x 1 rows = fieldAddrA Try.prog 3 1 x rows := aFieldAddr_of Try.ty_fo47_1 x rows
theorem Try.ty_ff47_1 (x : AV) : aField Try.prog 47 x 1 = fieldA Try.prog 3 1 x := aField_of Try.ty_fo47_1 x
theorem Try.ty_f47_2 : (fieldOf Try.prog 47 2).map (fun d => (d.type, d.offset)) = some (3, 2) := by kernel_rfl
theorem Try.ty_fo47_2 : ∃ d, fieldOf Try.prog 47 2 = some d ∧ d.type = 3 ∧ d.offset = 2 := fieldOf_some Try.ty_f47_2
theorem Try.ty_fa47_2 (x : AV) (rows : Nat → ARow) : aFieldAddr Try.prog 47 x 2 rows = fieldAddrA Try.prog 3 2 x rows := aFieldAddr_of Try.ty_fo47_2 x rows
theorem Try.ty_ff47_2 (x : AV) : aField Try.prog 47 x 2 = fieldA Try.prog 3 2 x := aField_of Try.ty_fo47_2 x
theorem Try.ty_f47_3 : (fieldOf Try.prog 47 3).map (fun d => (d.type, d.offset)) = some (46, 3) := by kernel_rfl
theorem Try.ty_fo47_3 : ∃ d, fieldOf Try.prog 47 3 = some d ∧ d.type = 46 ∧ d.offset = 3 := fieldOf_some Try.ty_f47_3
theorem Try.ty_fa47_3 (x : AV) (rows : Nat → ARow) : aFieldAddr Try.prog 47 x 3 rows = fieldAddrA Try.prog 46 3 x rows := aFieldAddr_of Try.ty_fo47_3 x rows
theorem Try.ty_ff47_3 (x : AV) : aField Try.prog 47 x 3 = fieldA Try.prog 46 3 x := aField_of Try.ty_fo47_3 x
theorem Try.ty_bu47 (parts : List (Nat × AV)) : aBuild Try.prog 47 parts = (fillA (fun i => ([(0, 1), (1, 1), (2, 1), (3, 1)] : List (Nat × Nat))[i]?) [.int .i64 0, .int .i64 0, .int .i64 0, .sl true []] parts).map .agg := aBuild_struct (by kernel_rfl) (by kernel_rfl)
theorem Try.ty_size48 : tsize Try.prog 48 = some 4 := by kernel_rfl
theorem Try.ty_bytes48 : tbytes Try.prog 48 = some 48 := by kernel_rfl
theorem Try.ty_agg48 : tagg Try.prog 48 = some true := by kernel_rfl
theorem Try.ty_zero48 : tzero Try.prog 48 = some (.agg [.int .i64 0, .int .i64 0, .int .i64 0, .sl true []]) := by kernel_rfl
theorem Try.ty_sl48 : isSlice Try.prog 48 = false := by kernel_rfl
theorem Try.ty_b48 : isBool Try.prog 48 = false := by kernel_rfl
theorem Try.ty_f48_0 : (fieldOf Try.prog 48 0).map (fun d => (d.type, d.offset)) = some (3, 0) := by kernel_rfl
theorem Try.ty_fo48_0 : ∃ d, fieldOf Try.prog 48 0 = some d ∧ d.type = 3 ∧ d.offset = 0 := fieldOf_some Try.ty_f48_0
theorem Try.ty_fa48_0 (x : AV) (rows : Nat → ARow) : aFieldAddr Try.prog 48 x 0 rows = fieldAddrA Try.prog 3 0 x rows := aFieldAddr_of Try.ty_fo48_0 x rows
theorem Try.ty_ff48_0 (x : AV) : aField Try.prog 48 x 0 = fieldA Try.prog 3 0 x := aField_of Try.ty_fo48_0 x
theorem Try.ty_f48_1 : (fieldOf Try.prog 48 1).map (fun d => (d.type, d.offset)) = some (3, 1) := by kernel_rfl
theorem Try.ty_fo48_1 : ∃ d, fieldOf Try.prog 48 1 = some d ∧ d.type = 3 ∧ d.offset = 1 := fieldOf_some Try.ty_f48_1
theorem Try.ty_fa48_1 (x : AV) (rows : Nat → ARow) : aFieldAddr Try.prog 48 x 1 rows = fieldAddrA Try.prog 3 1 x rows := aFieldAddr_of Try.ty_fo48_1 x rows
theorem Try.ty_ff48_1 (x : AV) : aField Try.prog 48 x 1 = fieldA Try.prog 3 1 x := aField_of Try.ty_fo48_1 x
theorem Try.ty_f48_2 : (fieldOf Try.prog 48 2).map (fun d => (d.type, d.offset)) = some (3, 2) := by kernel_rfl
theorem Try.ty_fo48_2 : ∃ d, fieldOf Try.prog 48 2 = some d ∧ d.type = 3 ∧ d.offset = 2 := fieldOf_some Try.ty_f48_2
theorem Try.ty_fa48_2 (x : AV) (rows : Nat → ARow) : aFieldAddr Try.prog 48 x 2 rows = fieldAddrA Try.prog 3 2 x rows := aFieldAddr_of Try.ty_fo48_2 x rows
theorem Try.ty_ff48_2 (x : AV) : aField Try.prog 48 x 2 = fieldA Try.prog 3 2 x := aField_of Try.ty_fo48_2 x
theorem Try.ty_f48_3 : (fieldOf Try.prog 48 3).map (fun d => (d.type, d.offset)) = some (46, 3) := by kernel_rfl
theorem Try.ty_fo48_3 : ∃ d, fieldOf Try.prog 48 3 = some d ∧ d.type = 46 ∧ d.offset = 3 := fieldOf_some Try.ty_f48_3
theorem Try.ty_fa48_3 (x : AV) (rows : Nat → ARow) : aFieldAddr Try.prog 48 x 3 rows = fieldAddrA Try.prog 46 3 x rows := aFieldAddr_of Try.ty_fo48_3 x rows
theorem Try.ty_ff48_3 (x : AV) : aField Try.prog 48 x 3 = fieldA Try.prog 46 3 x := aField_of Try.ty_fo48_3 x
theorem Try.ty_bu48 (parts : List (Nat × AV)) : aBuild Try.prog 48 parts = (fillA (fun i => ([(0, 1), (1, 1), (2, 1), (3, 1)] : List (Nat × Nat))[i]?) [.int .i64 0, .int .i64 0, .int .i64 0, .sl true []] parts).map .agg := aBuild_struct (by kernel_rfl) (by kernel_rfl)
theorem Try.ty_size49 : tsize Try.prog 49 = some 6 := by kernel_rfl
theorem Try.ty_bytes49 : tbytes Try.prog 49 = some 80 := by kernel_rfl
theorem Try.ty_agg49 : tagg Try.prog 49 = some true := by kernel_rfl
theorem Try.ty_zero49 : tzero Try.prog 49 = some (.agg [.int .i64 0, .sl true [], .int .i64 0, .int .i64 0, .int .i64 0, .sl true []]) := by kernel_rfl
theorem Try.ty_sl49 : isSlice Try.prog 49 = false := by kernel_rfl
theorem Try.ty_b49 : isBool Try.prog 49 = false := by kernel_rfl
theorem Try.ty_f49_0 : (fieldOf Try.prog 49 0).map (fun d => (d.type, d.offset)) = some (3, 0) := by kernel_rfl
theorem Try.ty_fo49_0 : ∃ d, fieldOf Try.prog 49 0 = some d ∧ d.type = 3 ∧ d.offset = 0 := fieldOf_some Try.ty_f49_0
theorem Try.ty_fa49_0 (x : AV) (rows : Nat → ARow) : aFieldAddr Try.prog 49 x 0 rows = fieldAddrA Try.prog 3 0 x rows := aFieldAddr_of Try.ty_fo49_0 x rows
theorem Try.ty_ff49_0 (x : AV) : aField Try.prog 49 x 0 = fieldA Try.prog 3 0 x := aField_of Try.ty_fo49_0 x
theorem Try.ty_f49_1 : (fieldOf Try.prog 49 1).map (fun d => (d.type, d.offset)) = some (22, 1) := by kernel_rfl
theorem Try.ty_fo49_1 : ∃ d, fieldOf Try.prog 49 1 = some d ∧ d.type = 22 ∧ d.offset = 1 := fieldOf_some Try.ty_f49_1
theorem Try.ty_fa49_1 (x : AV) (rows : Nat → ARow) : aFieldAddr Try.prog 49 x 1 rows = fieldAddrA Try.prog 22 1 x rows := aFieldAddr_of Try.ty_fo49_1 x rows
theorem Try.ty_ff49_1 (x : AV) : aField Try.prog 49 x 1 = fieldA Try.prog 22 1 x := aField_of Try.ty_fo49_1 x
theorem Try.ty_f49_2 : (fieldOf Try.prog 49 2).map (fun d => (d.type, d.offset)) = some (48, 2) := by kernel_rfl
theorem Try.ty_fo49_2 : ∃ d, fieldOf Try.prog 49 2 = some d ∧ d.type = 48 ∧ d.offset = 2 := fieldOf_some Try.ty_f49_2
theorem Try.ty_fa49_2 (x : AV) (rows : Nat → ARow) : aFieldAddr Try.prog 49 x 2 rows = fieldAddrA Try.prog 48 2 x rows := aFieldAddr_of Try.ty_fo49_2 x rows
theorem Try.ty_ff49_2 (x : AV) : aField Try.prog 49 x 2 = fieldA Try.prog 48 2 x := aField_of Try.ty_fo49_2 x
theorem Try.ty_bu49 (parts : List (Nat × AV)) : aBuild Try.prog 49 parts = (fillA (fun i => ([(0, 1), (1, 1), (2, 4)] : List (Nat × Nat))[i]?) [.int .i64 0, .sl true [], .int .i64 0, .int .i64 0, .int .i64 0, .sl true []] parts).map .agg := aBuild_struct (by kernel_rfl) (by kernel_rfl)
theorem Try.ty_size50 : tsize Try.prog 50 = some 6 := by kernel_rfl
theorem Try.ty_bytes50 : tbytes Try.prog 50 = some 80 := by kernel_rfl
theorem Try.ty_agg50 : tagg Try.prog 50 = some true := by kernel_rfl
theorem Try.ty_zero50 : tzero Try.prog 50 = some (.agg [.int .i64 0, .sl true [], .int .i64 0, .int .i64 0, .int .i64 0, .sl true []]) := by kernel_rfl
theorem Try.ty_sl50 : isSlice Try.prog 50 = false := by kernel_rfl
theorem Try.ty_b50 : isBool Try.prog 50 = false := by kernel_rfl
theorem Try.ty_f50_0 : (fieldOf Try.prog 50 0).map (fun d => (d.type, d.offset)) = some (3, 0) := by kernel_rfl
theorem Try.ty_fo50_0 : ∃ d, fieldOf Try.prog 50 0 = some d ∧ d.type = 3 ∧ d.offset = 0 := fieldOf_some Try.ty_f50_0
theorem Try.ty_fa50_0 (x : AV) (rows : Nat → ARow) : aFieldAddr Try.prog 50 x 0 rows = fieldAddrA Try.prog 3 0 x rows := aFieldAddr_of Try.ty_fo50_0 x rows
theorem Try.ty_ff50_0 (x : AV) : aField Try.prog 50 x 0 = fieldA Try.prog 3 0 x := aField_of Try.ty_fo50_0 x
theorem Try.ty_f50_1 : (fieldOf Try.prog 50 1).map (fun d => (d.type, d.offset)) = some (22, 1) := by kernel_rfl
theorem Try.ty_fo50_1 : ∃ d, fieldOf Try.prog 50 1 = some d ∧ d.type = 22 ∧ d.offset = 1 := fieldOf_some Try.ty_f50_1
theorem Try.ty_fa50_1 (x : AV) (rows : Nat → ARow) : aFieldAddr Try.prog 50 x 1 rows = fieldAddrA Try.prog 22 1 x rows := aFieldAddr_of Try.ty_fo50_1 x rows
theorem Try.ty_ff50_1 (x : AV) : aField Try.prog 50 x 1 = fieldA Try.prog 22 1 x := aField_of Try.ty_fo50_1 x
theorem Try.ty_f50_2 : (fieldOf Try.prog 50 2).map (fun d => (d.type, d.offset)) = some (48, 2) := by kernel_rfl
theorem Try.ty_fo50_2 : ∃ d, fieldOf Try.prog 50 2 = some d ∧ d.type = 48 ∧ d.offset = 2 := fieldOf_some Try.ty_f50_2
theorem Try.ty_fa50_2 (x : AV) (rows : Nat → ARow) : aFieldAddr Try.prog 50 x 2 rows = fieldAddrA Try.prog 48 2 x rows := aFieldAddr_of Try.ty_fo50_2 x rows
theorem Try.ty_ff50_2 (x : AV) : aField Try.prog 50 x 2 = fieldA Try.prog 48 2 x := aField_of Try.ty_fo50_2 x
theorem Try.ty_bu50 (parts : List (Nat × AV)) : aBuild Try.prog 50 parts = (fillA (fun i => ([(0, 1), (1, 1), (2, 4)] : List (Nat × Nat))[i]?) [.int .i64 0, .sl true [], .int .i64 0, .int .i64 0, .int .i64 0, .sl true []] parts).map .agg := aBuild_struct (by kernel_rfl) (by kernel_rfl)
theorem Try.ty_size51 : tsize Try.prog 51 = some 1 := by kernel_rfl
theorem Try.ty_agg51 : tagg Try.prog 51 = some false := by kernel_rfl
theorem Try.ty_zero51 : tzero Try.prog 51 = some .nilfn := by kernel_rfl
theorem Try.ty_size52 : tsize Try.prog 52 = some 1 := by kernel_rfl
theorem Try.ty_agg52 : tagg Try.prog 52 = some false := by kernel_rfl
theorem Try.ty_zero52 : tzero Try.prog 52 = some .nilfn := by kernel_rfl
theorem Try.ty_size53 : tsize Try.prog 53 = some 1 := by kernel_rfl
theorem Try.ty_agg53 : tagg Try.prog 53 = some false := by kernel_rfl
theorem Try.ty_zero53 : tzero Try.prog 53 = some .nilfn := by kernel_rfl
theorem Try.ty_size54 : tsize Try.prog 54 = some 1 := by kernel_rfl
theorem Try.ty_agg54 : tagg Try.prog 54 = some false := by kernel_rfl
theorem Try.ty_zero54 : tzero Try.prog 54 = some .nilfn := by kernel_rfl
theorem Try.ty_size55 : tsize Try.prog 55 = some 1 := by kernel_rfl
theorem Try.ty_bytes55 : tbytes Try.prog 55 = some 8 := by kernel_rfl
theorem Try.ty_agg55 : tagg Try.prog 55 = some false := by kernel_rfl
theorem Try.ty_zero55 : tzero Try.prog 55 = some (.int .u64 0) := by kernel_rfl
theorem Try.ty_sl55 : isSlice Try.prog 55 = false := by kernel_rfl
theorem Try.ty_b55 : isBool Try.prog 55 = false := by kernel_rfl
theorem Try.ty_u55 : Try.prog.underlying 55 = some (.int .u64) := by kernel_rfl
theorem Try.ty_size56 : tsize Try.prog 56 = some 1 := by kernel_rfl
theorem Try.ty_bytes56 : tbytes Try.prog 56 = some 8 := by kernel_rfl
theorem Try.ty_agg56 : tagg Try.prog 56 = some false := by kernel_rfl
theorem Try.ty_zero56 : tzero Try.prog 56 = some (.mp [] []) := by kernel_rfl
theorem Try.ty_sl56 : isSlice Try.prog 56 = false := by kernel_rfl
theorem Try.ty_b56 : isBool Try.prog 56 = false := by kernel_rfl
theorem Try.ty_map56 : mapOf Try.prog 56 = some (3, 4, .int .i64) := by kernel_rfl
theorem Try.ty_u56 : Try.prog.underlying 56 = some (.map 3 4) := by kernel_rfl
theorem Try.ty_size57 : tsize Try.prog 57 = some 6 := by kernel_rfl
theorem Try.ty_bytes57 : tbytes Try.prog 57 = some 80 := by kernel_rfl
theorem Try.ty_agg57 : tagg Try.prog 57 = some true := by kernel_rfl
theorem Try.ty_zero57 : tzero Try.prog 57 = some (.agg [.int .i64 0, .sl true [], .int .i64 0, .int .i64 0, .int .i64 0, .sl true []]) := by kernel_rfl
theorem Try.ty_sl57 : isSlice Try.prog 57 = false := by kernel_rfl
theorem Try.ty_b57 : isBool Try.prog 57 = false := by kernel_rfl
theorem Try.ty_f57_0 : (fieldOf Try.prog 57 0).map (fun d => (d.type, d.offset)) = some (3, 0) := by kernel_rfl
theorem Try.ty_fo57_0 : ∃ d, fieldOf Try.prog 57 0 = some d ∧ d.type = 3 ∧ d.offset = 0 := fieldOf_some Try.ty_f57_0
theorem Try.ty_fa57_0 (x : AV) (rows : Nat → ARow) : aFieldAddr Try.prog 57 x 0 rows = fieldAddrA Try.prog 3 0 x rows := aFieldAddr_of Try.ty_fo57_0 x rows
theorem Try.ty_ff57_0 (x : AV) : aField Try.prog 57 x 0 = fieldA Try.prog 3 0 x := aField_of Try.ty_fo57_0 x
theorem Try.ty_f57_1 : (fieldOf Try.prog 57 1).map (fun d => (d.type, d.offset)) = some (22, 1) := by kernel_rfl
theorem Try.ty_fo57_1 : ∃ d, fieldOf Try.prog 57 1 = some d ∧ d.type = 22 ∧ d.offset = 1 := fieldOf_some Try.ty_f57_1
theorem Try.ty_fa57_1 (x : AV) (rows : Nat → ARow) : aFieldAddr Try.prog 57 x 1 rows = fieldAddrA Try.prog 22 1 x rows := aFieldAddr_of Try.ty_fo57_1 x rows
theorem Try.ty_ff57_1 (x : AV) : aField Try.prog 57 x 1 = fieldA Try.prog 22 1 x := aField_of Try.ty_fo57_1 x
theorem Try.ty_f57_2 : (fieldOf Try.prog 57 2).map (fun d => (d.type, d.offset)) = some (48, 2) := by kernel_rfl
theorem Try.ty_fo57_2 : ∃ d, fieldOf Try.prog 57 2 = some d ∧ d.type = 48 ∧ d.offset = 2 := fieldOf_some Try.ty_f57_2
theorem Try.ty_fa57_2 (x : AV) (rows : Nat → ARow) : aFieldAddr Try.prog 57 x 2 rows = fieldAddrA Try.prog 48 2 x rows := aFieldAddr_of Try.ty_fo57_2 x rows
theorem Try.ty_ff57_2 (x : AV) : aField Try.prog 57 x 2 = fieldA Try.prog 48 2 x := aField_of Try.ty_fo57_2 x
theorem Try.ty_bu57 (parts : List (Nat × AV)) : aBuild Try.prog 57 parts = (fillA (fun i => ([(0, 1), (1, 1), (2, 4)] : List (Nat × Nat))[i]?) [.int .i64 0, .sl true [], .int .i64 0, .int .i64 0, .int .i64 0, .sl true []] parts).map .agg := aBuild_struct (by kernel_rfl) (by kernel_rfl)
theorem Try.ty_size58 : tsize Try.prog 58 = some 1 := by kernel_rfl
theorem Try.ty_agg58 : tagg Try.prog 58 = some false := by kernel_rfl
theorem Try.ty_zero58 : tzero Try.prog 58 = some .nilfn := by kernel_rfl
theorem Try.ty_size59 : tsize Try.prog 59 = some 1 := by kernel_rfl
theorem Try.ty_agg59 : tagg Try.prog 59 = some false := by kernel_rfl
theorem Try.ty_zero59 : tzero Try.prog 59 = some .nilfn := by kernel_rfl
theorem Try.ty_size60 : tsize Try.prog 60 = some 1 := by kernel_rfl
theorem Try.ty_agg60 : tagg Try.prog 60 = some false := by kernel_rfl
theorem Try.ty_zero60 : tzero Try.prog 60 = some .nilfn := by kernel_rfl
theorem Try.ty_size61 : tsize Try.prog 61 = some 1 := by kernel_rfl
theorem Try.ty_agg61 : tagg Try.prog 61 = some false := by kernel_rfl
theorem Try.ty_zero61 : tzero Try.prog 61 = some .nilfn := by kernel_rfl
theorem Try.ty_size62 : tsize Try.prog 62 = some 1 := by kernel_rfl
theorem Try.ty_agg62 : tagg Try.prog 62 = some false := by kernel_rfl
theorem Try.ty_zero62 : tzero Try.prog 62 = some .nilfn := by kernel_rfl
theorem Try.ty_size63 : tsize Try.prog 63 = some 32 := by kernel_rfl
theorem Try.ty_bytes63 : tbytes Try.prog 63 = some 32 := by kernel_rfl
theorem Try.ty_agg63 : tagg Try.prog 63 = some true := by kernel_rfl
theorem Try.ty_zero63 : tzero Try.prog 63 = some (.agg [.bool false, .bool false, .bool false, .bool false, .bool false, .bool false, .bool false, .bool false, .bool false, .bool false, .bool false, .bool false, .bool false, .bool false, .bool false, .bool false, .bool false, .bool false, .bool false, .bool false, .bool false, .bool false, .bool false, .bool false, .bool false, .bool false, .bool false, .bool false, .bool false, .bool false, .bool false, .bool false]) := by kernel_rfl
theorem Try.ty_sl63 : isSlice Try.prog 63 = false := by kernel_rfl
theorem Try.ty_b63 : isBool Try.prog 63 = false := by kernel_rfl
theorem Try.ty_u63 : Try.prog.underlying 63 = some (.array 32 4) := by kernel_rfl
theorem Try.ty_bu63 (parts : List (Nat × AV)) : aBuild Try.prog 63 parts = (fillA (fun i => some (i * 1, 1)) [.bool false, .bool false, .bool false, .bool false, .bool false, .bool false, .bool false, .bool false, .bool false, .bool false, .bool false, .bool false, .bool false, .bool false, .bool false, .bool false, .bool false, .bool false, .bool false, .bool false, .bool false, .bool false, .bool false, .bool false, .bool false, .bool false, .bool false, .bool false, .bool false, .bool false, .bool false, .bool false] parts).map .agg := aBuild_array (n := 32) (e := 4) (by kernel_rfl) (by kernel_rfl) (by kernel_rfl)
theorem Try.ty_size64 : tsize Try.prog 64 = some 32 := by kernel_rfl
theorem Try.ty_bytes64 : tbytes Try.prog 64 = some 32 := by kernel_rfl
theorem Try.ty_agg64 : tagg Try.prog 64 = some true := by kernel_rfl
theorem Try.ty_zero64 : tzero Try.prog 64 = some (.agg [.bool false, .bool false, .bool false, .bool false, .bool false, .bool false, .bool false, .bool false, .bool false, .bool false, .bool false, .bool false, .bool false, .bool false, .bool false, .bool false, .bool false, .bool false, .bool false, .bool false, .bool false, .bool false, .bool false, .bool false, .bool false, .bool false, .bool false, .bool false, .bool false, .bool false, .bool false, .bool false]) := by kernel_rfl
theorem Try.ty_sl64 : isSlice Try.prog 64 = false := by kernel_rfl
theorem Try.ty_b64 : isBool Try.prog 64 = false := by kernel_rfl
theorem Try.ty_u64 : Try.prog.underlying 64 = some (.array 32 4) := by kernel_rfl
theorem Try.ty_bu64 (parts : List (Nat × AV)) : aBuild Try.prog 64 parts = (fillA (fun i => some (i * 1, 1)) [.bool false, .bool false, .bool false, .bool false, .bool false, .bool false, .bool false, .bool false, .bool false, .bool false, .bool false, .bool false, .bool false, .bool false, .bool false, .bool false, .bool false, .bool false, .bool false, .bool false, .bool false, .bool false, .bool false, .bool false, .bool false, .bool false, .bool false, .bool false, .bool false, .bool false, .bool false, .bool false] parts).map .agg := aBuild_array (n := 32) (e := 4) (by kernel_rfl) (by kernel_rfl) (by kernel_rfl)
theorem Try.ty_size65 : tsize Try.prog 65 = some 1 := by kernel_rfl
theorem Try.ty_bytes65 : tbytes Try.prog 65 = some 8 := by kernel_rfl
theorem Try.ty_agg65 : tagg Try.prog 65 = some false := by kernel_rfl
theorem Try.ty_zero65 : tzero Try.prog 65 = some (.mp [] []) := by kernel_rfl
theorem Try.ty_sl65 : isSlice Try.prog 65 = false := by kernel_rfl
theorem Try.ty_b65 : isBool Try.prog 65 = false := by kernel_rfl
theorem Try.ty_map65 : mapOf Try.prog 65 = some (3, 64, .int .i64) := by kernel_rfl
theorem Try.ty_u65 : Try.prog.underlying 65 = some (.map 3 64) := by kernel_rfl
theorem Try.ty_size66 : tsize Try.prog 66 = some 1 := by kernel_rfl
theorem Try.ty_agg66 : tagg Try.prog 66 = some false := by kernel_rfl
theorem Try.ty_zero66 : tzero Try.prog 66 = some .nilfn := by kernel_rfl
theorem Try.ty_size67 : tsize Try.prog 67 = some 1 := by kernel_rfl
theorem Try.ty_agg67 : tagg Try.prog 67 = some false := by kernel_rfl
theorem Try.ty_zero67 : tzero Try.prog 67 = some .nilfn := by kernel_rfl
theorem Try.ty_size69 : tsize Try.prog 69 = some 1 := by kernel_rfl
theorem Try.ty_agg69 : tagg Try.prog 69 = some false := by kernel_rfl
theorem Try.ty_zero69 : tzero Try.prog 69 = some .nilfn := by kernel_rfl
theorem Try.ty_size70 : tsize Try.prog 70 = some 1 := by kernel_rfl
theorem Try.ty_bytes70 : tbytes Try.prog 70 = some 8 := by kernel_rfl
theorem Try.ty_agg70 : tagg Try.prog 70 = some false := by kernel_rfl
theorem Try.ty_zero70 : tzero Try.prog 70 = some (.mp [] []) := by kernel_rfl
theorem Try.ty_sl70 : isSlice Try.prog 70 = false := by kernel_rfl
theorem Try.ty_b70 : isBool Try.prog 70 = false := by kernel_rfl
theorem Try.ty_map70 : mapOf Try.prog 70 = some (3, 22, .int .i64) := by kernel_rfl
theorem Try.ty_u70 : Try.prog.underlying 70 = some (.map 3 22) := by kernel_rfl
theorem Try.ty_size71 : tsize Try.prog 71 = some 1 := by kernel_rfl
theorem Try.ty_agg71 : tagg Try.prog 71 = some false := by kernel_rfl
theorem Try.ty_zero71 : tzero Try.prog 71 = some .nilfn := by kernel_rfl
theorem Try.ty_size72 : tsize Try.prog 72 = some 1 := by kernel_rfl
theorem Try.ty_agg72 : tagg Try.prog 72 = some false := by kernel_rfl
theorem Try.ty_zero72 : tzero Try.prog 72 = some .nilfn := by kernel_rfl
theorem Try.ty_size73 : tsize Try.prog 73 = some 1 := by kernel_rfl
theorem Try.ty_agg73 : tagg Try.prog 73 = some false := by kernel_rfl
theorem Try.ty_zero73 : tzero Try.prog 73 = some .nilfn := by kernel_rfl
theorem Try.ty_size74 : tsize Try.prog 74 = some 1 := by kernel_rfl
theorem Try.ty_agg74 : tagg Try.prog 74 = some false := by kernel_rfl
theorem Try.ty_zero74 : tzero Try.prog 74 = some .nilfn := by kernel_rfl
theorem Try.ty_size75 : tsize Try.prog 75 = some 1 := by kernel_rfl
theorem Try.ty_agg75 : tagg Try.prog 75 = some false := by kernel_rfl
theorem Try.ty_zero75 : tzero Try.prog 75 = some .nilfn := by kernel_rfl
theorem Try.ty_size76 : tsize Try.prog 76 = some 1 := by kernel_rfl
theorem Try.ty_agg76 : tagg Try.prog 76 = some false := by kernel_rfl
theorem Try.ty_zero76 : tzero Try.prog 76 = some .nilfn := by kernel_rfl
theorem Try.ty_size77 : tsize Try.prog 77 = some 1 := by kernel_rfl
theorem Try.ty_agg77 : tagg Try.prog 77 = some false := by kernel_rfl
theorem Try.ty_zero77 : tzero Try.prog 77 = some .nilfn := by kernel_rfl
theorem Try.ty_size79 : tsize Try.prog 79 = some 1 := by kernel_rfl
theorem Try.ty_agg79 : tagg Try.prog 79 = some false := by kernel_rfl
theorem Try.ty_zero79 : tzero Try.prog 79 = some .nilfn := by kernel_rfl
theorem Try.ty_size80 : tsize Try.prog 80 = some 1 := by kernel_rfl
theorem Try.ty_agg80 : tagg Try.prog 80 = some false := by kernel_rfl
theorem Try.ty_zero80 : tzero Try.prog 80 = some .nilfn := by kernel_rfl
theorem Try.ty_size81 : tsize Try.prog 81 = some 4 := by kernel_rfl
theorem Try.ty_bytes81 : tbytes Try.prog 81 = some 40 := by kernel_rfl
theorem Try.ty_agg81 : tagg Try.prog 81 = some true := by kernel_rfl
theorem Try.ty_zero81 : tzero Try.prog 81 = some (.agg [.nilptr, .nilptr, .nilptr, .str ByteArray.empty]) := by kernel_rfl
theorem Try.ty_sl81 : isSlice Try.prog 81 = false := by kernel_rfl
theorem Try.ty_b81 : isBool Try.prog 81 = false := by kernel_rfl
theorem Try.ty_f81_0 : (fieldOf Try.prog 81 0).map (fun d => (d.type, d.offset)) = some (17, 0) := by kernel_rfl
theorem Try.ty_fo81_0 : ∃ d, fieldOf Try.prog 81 0 = some d ∧ d.type = 17 ∧ d.offset = 0 := fieldOf_some Try.ty_f81_0
theorem Try.ty_fa81_0 (x : AV) (rows : Nat → ARow) : aFieldAddr Try.prog 81 x 0 rows = fieldAddrA Try.prog 17 0 x rows := aFieldAddr_of Try.ty_fo81_0 x rows
theorem Try.ty_ff81_0 (x : AV) : aField Try.prog 81 x 0 = fieldA Try.prog 17 0 x := aField_of Try.ty_fo81_0 x
theorem Try.ty_f81_1 : (fieldOf Try.prog 81 1).map (fun d => (d.type, d.offset)) = some (17, 1) := by kernel_rfl
theorem Try.ty_fo81_1 : ∃ d, fieldOf Try.prog 81 1 = some d ∧ d.type = 17 ∧ d.offset = 1 := fieldOf_some Try.ty_f81_1
theorem Try.ty_fa81_1 (x : AV) (rows : Nat → ARow) : aFieldAddr Try.prog 81 x 1 rows = fieldAddrA Try.prog 17 1 x rows := aFieldAddr_of Try.ty_fo81_1 x rows
theorem Try.ty_ff81_1 (x : AV) : aField Try.prog 81 x 1 = fieldA Try.prog 17 1 x := aField_of Try.ty_fo81_1 x
theorem Try.ty_f81_2 : (fieldOf Try.prog 81 2).map (fun d => (d.type, d.offset)) = some (17, 2) := by kernel_rfl
theorem Try.ty_fo81_2 : ∃ d, fieldOf Try.prog 81 2 = some d ∧ d.type = 17 ∧ d.offset = 2 := fieldOf_some Try.ty_f81_2
theorem Try.ty_fa81_2 (x : AV) (rows : Nat → ARow) : aFieldAddr Try.prog 81 x 2 rows = fieldAddrA Try.prog 17 2 x rows := aFieldAddr_of Try.ty_fo81_2 x rows
theorem Try.ty_ff81_2 (x : AV) : aField Try.prog 81 x 2 = fieldA Try.prog 17 2 x := aField_of Try.ty_fo81_2 x
theorem Try.ty_f81_3 : (fieldOf Try.prog 81 3).map (fun d => (d.type, d.offset)) = some (9, 3) := by kernel_rfl
theorem Try.ty_fo81_3 : ∃ d, fieldOf Try.prog 81 3 = some d ∧ d.type = 9 ∧ d.offset = 3 := fieldOf_some Try.ty_f81_3
theorem Try.ty_fa81_3 (x : AV) (rows : Nat → ARow) : aFieldAddr Try.prog 81 x 3 rows = fieldAddrA Try.prog 9 3 x rows := aFieldAddr_of Try.ty_fo81_3 x rows
theorem Try.ty_ff81_3 (x : AV) : aField Try.prog 81 x 3 = fieldA Try.prog 9 3 x := aField_of Try.ty_fo81_3 x
theorem Try.ty_bu81 (parts : List (Nat × AV)) : aBuild Try.prog 81 parts = (fillA (fun i => ([(0, 1), (1, 1), (2, 1), (3, 1)] : List (Nat × Nat))[i]?) [.nilptr, .nilptr, .nilptr, .str ByteArray.empty] parts).map .agg := aBuild_struct (by kernel_rfl) (by kernel_rfl)
theorem Try.ty_size82 : tsize Try.prog 82 = some 4 := by kernel_rfl
theorem Try.ty_bytes82 : tbytes Try.prog 82 = some 40 := by kernel_rfl
theorem Try.ty_agg82 : tagg Try.prog 82 = some true := by kernel_rfl
theorem Try.ty_zero82 : tzero Try.prog 82 = some (.agg [.nilptr, .nilptr, .nilptr, .str ByteArray.empty]) := by kernel_rfl
theorem Try.ty_sl82 : isSlice Try.prog 82 = false := by kernel_rfl
theorem Try.ty_b82 : isBool Try.prog 82 = false := by kernel_rfl
theorem Try.ty_f82_0 : (fieldOf Try.prog 82 0).map (fun d => (d.type, d.offset)) = some (17, 0) := by kernel_rfl
theorem Try.ty_fo82_0 : ∃ d, fieldOf Try.prog 82 0 = some d ∧ d.type = 17 ∧ d.offset = 0 := fieldOf_some Try.ty_f82_0
theorem Try.ty_fa82_0 (x : AV) (rows : Nat → ARow) : aFieldAddr Try.prog 82 x 0 rows = fieldAddrA Try.prog 17 0 x rows := aFieldAddr_of Try.ty_fo82_0 x rows
theorem Try.ty_ff82_0 (x : AV) : aField Try.prog 82 x 0 = fieldA Try.prog 17 0 x := aField_of Try.ty_fo82_0 x
theorem Try.ty_f82_1 : (fieldOf Try.prog 82 1).map (fun d => (d.type, d.offset)) = some (17, 1) := by kernel_rfl
theorem Try.ty_fo82_1 : ∃ d, fieldOf Try.prog 82 1 = some d ∧ d.type = 17 ∧ d.offset = 1 := fieldOf_some Try.ty_f82_1
theorem Try.ty_fa82_1 (x : AV) (rows : Nat → ARow) : aFieldAddr Try.prog 82 x 1 rows = fieldAddrA Try.prog 17 1 x rows := aFieldAddr_of Try.ty_fo82_1 x rows
theorem Try.ty_ff82_1 (x : AV) : aField Try.prog 82 x 1 = fieldA Try.prog 17 1 x := aField_of Try.ty_fo82_1 x
theorem Try.ty_f82_2 : (fieldOf Try.prog 82 2).map (fun d => (d.type, d.offset)) = some (17, 2) := by kernel_rfl
theorem Try.ty_fo82_2 : ∃ d, fieldOf Try.prog 82 2 = some d ∧ d.type = 17 ∧ d.offset = 2 := fieldOf_some Try.ty_f82_2
theorem Try.ty_fa82_2 (x : AV) (rows : Nat → ARow) : aFieldAddr Try.prog 82 x 2 rows = fieldAddrA Try.prog 17 2 x rows := aFieldAddr_of Try.ty_fo82_2 x rows
theorem Try.ty_ff82_2 (x : AV) : aField Try.prog 82 x 2 = fieldA Try.prog 17 2 x := aField_of Try.ty_fo82_2 x
theorem Try.ty_f82_3 : (fieldOf Try.prog 82 3).map (fun d => (d.type, d.offset)) = some (9, 3) := by kernel_rfl
theorem Try.ty_fo82_3 : ∃ d, fieldOf Try.prog 82 3 = some d ∧ d.type = 9 ∧ d.offset = 3 := fieldOf_some Try.ty_f82_3
theorem Try.ty_fa82_3 (x : AV) (rows : Nat → ARow) : aFieldAddr Try.prog 82 x 3 rows = fieldAddrA Try.prog 9 3 x rows := aFieldAddr_of Try.ty_fo82_3 x rows
theorem Try.ty_ff82_3 (x : AV) : aField Try.prog 82 x 3 = fieldA Try.prog 9 3 x := aField_of Try.ty_fo82_3 x
theorem Try.ty_bu82 (parts : List (Nat × AV)) : aBuild Try.prog 82 parts = (fillA (fun i => ([(0, 1), (1, 1), (2, 1), (3, 1)] : List (Nat × Nat))[i]?) [.nilptr, .nilptr, .nilptr, .str ByteArray.empty] parts).map .agg := aBuild_struct (by kernel_rfl) (by kernel_rfl)
theorem Try.ty_size83 : tsize Try.prog 83 = some 0 := by kernel_rfl
theorem Try.ty_bytes83 : tbytes Try.prog 83 = some 0 := by kernel_rfl
theorem Try.ty_agg83 : tagg Try.prog 83 = some true := by kernel_rfl
theorem Try.ty_zero83 : tzero Try.prog 83 = some (.agg []) := by kernel_rfl
theorem Try.ty_sl83 : isSlice Try.prog 83 = false := by kernel_rfl
theorem Try.ty_b83 : isBool Try.prog 83 = false := by kernel_rfl
theorem Try.ty_u83 : Try.prog.underlying 83 = some (.array 0 16) := by kernel_rfl
theorem Try.ty_bu83 (parts : List (Nat × AV)) : aBuild Try.prog 83 parts = (fillA (fun i => some (i * 1, 1)) [] parts).map .agg := aBuild_array (n := 0) (e := 16) (by kernel_rfl) (by kernel_rfl) (by kernel_rfl)
theorem Try.ty_size84 : tsize Try.prog 84 = some 0 := by kernel_rfl
theorem Try.ty_bytes84 : tbytes Try.prog 84 = some 0 := by kernel_rfl
theorem Try.ty_agg84 : tagg Try.prog 84 = some true := by kernel_rfl
theorem Try.ty_zero84 : tzero Try.prog 84 = some (.agg []) := by kernel_rfl
theorem Try.ty_sl84 : isSlice Try.prog 84 = false := by kernel_rfl
theorem Try.ty_b84 : isBool Try.prog 84 = false := by kernel_rfl
theorem Try.ty_f84_0 : (fieldOf Try.prog 84 0).map (fun d => (d.type, d.offset)) = some (83, 0) := by kernel_rfl
theorem Try.ty_fo84_0 : ∃ d, fieldOf Try.prog 84 0 = some d ∧ d.type = 83 ∧ d.offset = 0 := fieldOf_some Try.ty_f84_0
theorem Try.ty_fa84_0 (x : AV) (rows : Nat → ARow) : aFieldAddr Try.prog 84 x 0 rows = fieldAddrA Try.prog 83 0 x rows := aFieldAddr_of Try.ty_fo84_0 x rows
theorem Try.ty_ff84_0 (x : AV) : aField Try.prog 84 x 0 = fieldA Try.prog 83 0 x := aField_of Try.ty_fo84_0 x
theorem Try.ty_bu84 (parts : List (Nat × AV)) : aBuild Try.prog 84 parts = (fillA (fun i => ([(0, 0)] : List (Nat × Nat))[i]?) [] parts).map .agg := aBuild_struct (by kernel_rfl) (by kernel_rfl)
theorem Try.ty_size85 : tsize Try.prog 85 = some 0 := by kernel_rfl
theorem Try.ty_bytes85 : tbytes Try.prog 85 = some 0 := by kernel_rfl
theorem Try.ty_agg85 : tagg Try.prog 85 = some true := by kernel_rfl
theorem Try.ty_zero85 : tzero Try.prog 85 = some (.agg []) := by kernel_rfl
theorem Try.ty_sl85 : isSlice Try.prog 85 = false := by kernel_rfl
theorem Try.ty_b85 : isBool Try.prog 85 = false := by kernel_rfl
theorem Try.ty_f85_0 : (fieldOf Try.prog 85 0).map (fun d => (d.type, d.offset)) = some (83, 0) := by kernel_rfl
theorem Try.ty_fo85_0 : ∃ d, fieldOf Try.prog 85 0 = some d ∧ d.type = 83 ∧ d.offset = 0 := fieldOf_some Try.ty_f85_0
theorem Try.ty_fa85_0 (x : AV) (rows : Nat → ARow) : aFieldAddr Try.prog 85 x 0 rows = fieldAddrA Try.prog 83 0 x rows := aFieldAddr_of Try.ty_fo85_0 x rows
theorem Try.ty_ff85_0 (x : AV) : aField Try.prog 85 x 0 = fieldA Try.prog 83 0 x := aField_of Try.ty_fo85_0 x
theorem Try.ty_bu85 (parts : List (Nat × AV)) : aBuild Try.prog 85 parts = (fillA (fun i => ([(0, 0)] : List (Nat × Nat))[i]?) [] parts).map .agg := aBuild_struct (by kernel_rfl) (by kernel_rfl)
theorem Try.ty_size86 : tsize Try.prog 86 = some 1 := by kernel_rfl
theorem Try.ty_agg86 : tagg Try.prog 86 = some false := by kernel_rfl
theorem Try.ty_zero86 : tzero Try.prog 86 = some .nilfn := by kernel_rfl
theorem Try.ty_size87 : tsize Try.prog 87 = some 1 := by kernel_rfl
theorem Try.ty_bytes87 : tbytes Try.prog 87 = some 4 := by kernel_rfl
theorem Try.ty_agg87 : tagg Try.prog 87 = some false := by kernel_rfl
theorem Try.ty_zero87 : tzero Try.prog 87 = some (.int .u32 0) := by kernel_rfl
theorem Try.ty_sl87 : isSlice Try.prog 87 = false := by kernel_rfl
theorem Try.ty_b87 : isBool Try.prog 87 = false := by kernel_rfl
theorem Try.ty_u87 : Try.prog.underlying 87 = some (.int .u32) := by kernel_rfl
theorem Try.ty_size88 : tsize Try.prog 88 = some 1 := by kernel_rfl
theorem Try.ty_bytes88 : tbytes Try.prog 88 = some 1 := by kernel_rfl
theorem Try.ty_agg88 : tagg Try.prog 88 = some false := by kernel_rfl
theorem Try.ty_zero88 : tzero Try.prog 88 = some (.int .u8 0) := by kernel_rfl
theorem Try.ty_sl88 : isSlice Try.prog 88 = false := by kernel_rfl
theorem Try.ty_b88 : isBool Try.prog 88 = false := by kernel_rfl
theorem Try.ty_u88 : Try.prog.underlying 88 = some (.int .u8) := by kernel_rfl
theorem Try.ty_size89 : tsize Try.prog 89 = some 1 := by kernel_rfl
theorem Try.ty_bytes89 : tbytes Try.prog 89 = some 1 := by kernel_rfl
theorem Try.ty_agg89 : tagg Try.prog 89 = some false := by kernel_rfl
theorem Try.ty_zero89 : tzero Try.prog 89 = some (.int .u8 0) := by kernel_rfl
theorem Try.ty_sl89 : isSlice Try.prog 89 = false := by kernel_rfl
theorem Try.ty_b89 : isBool Try.prog 89 = false := by kernel_rfl
theorem Try.ty_u89 : Try.prog.underlying 89 = some (.int .u8) := by kernel_rfl
theorem Try.ty_size90 : tsize Try.prog 90 = some 1 := by kernel_rfl
theorem Try.ty_agg90 : tagg Try.prog 90 = some false := by kernel_rfl
theorem Try.ty_zero90 : tzero Try.prog 90 = some .nilfn := by kernel_rfl
theorem Try.ty_size91 : tsize Try.prog 91 = some 1 := by kernel_rfl
theorem Try.ty_bytes91 : tbytes Try.prog 91 = some 8 := by kernel_rfl
theorem Try.ty_agg91 : tagg Try.prog 91 = some false := by kernel_rfl
theorem Try.ty_zero91 : tzero Try.prog 91 = some (.nilptr) := by kernel_rfl
theorem Try.ty_sl91 : isSlice Try.prog 91 = false := by kernel_rfl
theorem Try.ty_b91 : isBool Try.prog 91 = false := by kernel_rfl
theorem Try.ty_size92 : tsize Try.prog 92 = some 1 := by kernel_rfl
theorem Try.ty_bytes92 : tbytes Try.prog 92 = some 4 := by kernel_rfl
theorem Try.ty_agg92 : tagg Try.prog 92 = some false := by kernel_rfl
theorem Try.ty_zero92 : tzero Try.prog 92 = some (.int .i32 0) := by kernel_rfl
theorem Try.ty_sl92 : isSlice Try.prog 92 = false := by kernel_rfl
theorem Try.ty_b92 : isBool Try.prog 92 = false := by kernel_rfl
theorem Try.ty_u92 : Try.prog.underlying 92 = some (.int .i32) := by kernel_rfl
theorem Try.ty_size93 : tsize Try.prog 93 = some 1 := by kernel_rfl
theorem Try.ty_bytes93 : tbytes Try.prog 93 = some 4 := by kernel_rfl
theorem Try.ty_agg93 : tagg Try.prog 93 = some false := by kernel_rfl
theorem Try.ty_zero93 : tzero Try.prog 93 = some (.int .i32 0) := by kernel_rfl
theorem Try.ty_sl93 : isSlice Try.prog 93 = false := by kernel_rfl
theorem Try.ty_b93 : isBool Try.prog 93 = false := by kernel_rfl
theorem Try.ty_u93 : Try.prog.underlying 93 = some (.int .i32) := by kernel_rfl
theorem Try.ty_size94 : tsize Try.prog 94 = some 11 := by kernel_rfl
theorem Try.ty_bytes94 : tbytes Try.prog 94 = some 48 := by kernel_rfl
theorem Try.ty_agg94 : tagg Try.prog 94 = some true := by kernel_rfl
theorem Try.ty_zero94 : tzero Try.prog 94 = some (.agg [.int .u64 0, .int .u64 0, .int .u32 0, .int .u8 0, .int .u8 0, .int .u8 0, .int .u8 0, .nilfn, .nilptr, .int .i32 0, .int .i32 0]) := by kernel_rfl
theorem Try.ty_sl94 : isSlice Try.prog 94 = false := by kernel_rfl
theorem Try.ty_b94 : isBool Try.prog 94 = false := by kernel_rfl
theorem Try.ty_f94_0 : (fieldOf Try.prog 94 0).map (fun d => (d.type, d.offset)) = some (12, 0) := by kernel_rfl
theorem Try.ty_fo94_0 : ∃ d, fieldOf Try.prog 94 0 = some d ∧ d.type = 12 ∧ d.offset = 0 := fieldOf_some Try.ty_f94_0
theorem Try.ty_fa94_0 (x : AV) (rows : Nat → ARow) : aFieldAddr Try.prog 94 x 0 rows = fieldAddrA Try.prog 12 0 x rows := aFieldAddr_of Try.ty_fo94_0 x rows
theorem Try.ty_ff94_0 (x : AV) : aField Try.prog 94 x 0 = fieldA Try.prog 12 0 x := aField_of Try.ty_fo94_0 x
theorem Try.ty_f94_1 : (fieldOf Try.prog 94 1).map (fun d => (d.type, d.offset)) = some (12, 1) := by kernel_rfl
theorem Try.ty_fo94_1 : ∃ d, fieldOf Try.prog 94 1 = some d ∧ d.type = 12 ∧ d.offset = 1 := fieldOf_some Try.ty_f94_1
theorem Try.ty_fa94_1 (x : AV) (rows : Nat → ARow) : aFieldAddr Try.prog 94 x 1 rows = fieldAddrA Try.prog 12 1 x rows := aFieldAddr_of Try.ty_fo94_1 x rows
theorem Try.ty_ff94_1 (x : AV) : aField Try.prog 94 x 1 = fieldA Try.prog 12 1 x := aField_of Try.ty_fo94_1 x
theorem Try.ty_f94_2 : (fieldOf Try.prog 94 2).map (fun d => (d.type, d.offset)) = some (87, 2) := by kernel_rfl
theorem Try.ty_fo94_2 : ∃ d, fieldOf Try.prog 94 2 = some d ∧ d.type = 87 ∧ d.offset = 2 := fieldOf_some Try.ty_f94_2
theorem Try.ty_fa94_2 (x : AV) (rows : Nat → ARow) : aFieldAddr Try.prog 94 x 2 rows = fieldAddrA Try.prog 87 2 x rows := aFieldAddr_of Try.ty_fo94_2 x rows
theorem Try.ty_ff94_2 (x : AV) : aField Try.prog 94 x 2 = fieldA Try.prog 87 2 x := aField_of Try.ty_fo94_2 x
theorem Try.ty_f94_3 : (fieldOf Try.prog 94 3).map (fun d => (d.type, d.offset)) = some (88, 3) := by kernel_rfl
theorem Try.ty_fo94_3 : ∃ d, fieldOf Try.prog 94 3 = some d ∧ d.type = 88 ∧ d.offset = 3 := fieldOf_some Try.ty_f94_3
theorem Try.ty_fa94_3 (x : AV) (rows : Nat → ARow) : aFieldAddr Try.prog 94 x 3 rows = fieldAddrA Try.prog 88 3 x rows := aFieldAddr_of Try.ty_fo94_3 x rows
theorem Try.ty_ff94_3 (x : AV) : aField Try.prog 94 x 3 = fieldA Try.prog 88 3 x := aField_of Try.ty_fo94_3 x
theorem Try.ty_f94_4 : (fieldOf Try.prog 94 4).map (fun d => (d.type, d.offset)) = some (5, 4) := by kernel_rfl
theorem Try.ty_fo94_4 : ∃ d, fieldOf Try.prog 94 4 = some d ∧ d.type = 5 ∧ d.offset = 4 := fieldOf_some Try.ty_f94_4
theorem Try.ty_fa94_4 (x : AV) (rows : Nat → ARow) : aFieldAddr Try.prog 94 x 4 rows = fieldAddrA Try.prog 5 4 x rows := aFieldAddr_of Try.ty_fo94_4 x rows
theorem Try.ty_ff94_4 (x : AV) : aField Try.prog 94 x 4 = fieldA Try.prog 5 4 x := aField_of Try.ty_fo94_4 x
theorem Try.ty_f94_5 : (fieldOf Try.prog 94 5).map (fun d => (d.type, d.offset)) = some (5, 5) := by kernel_rfl
theorem Try.ty_fo94_5 : ∃ d, fieldOf Try.prog 94 5 = some d ∧ d.type = 5 ∧ d.offset = 5 := fieldOf_some Try.ty_f94_5
theorem Try.ty_fa94_5 (x : AV) (rows : Nat → ARow) : aFieldAddr Try.prog 94 x 5 rows = fieldAddrA Try.prog 5 5 x rows := aFieldAddr_of Try.ty_fo94_5 x rows
theorem Try.ty_ff94_5 (x : AV) : aField Try.prog 94 x 5 = fieldA Try.prog 5 5 x := aField_of Try.ty_fo94_5 x
theorem Try.ty_f94_6 : (fieldOf Try.prog 94 6).map (fun d => (d.type, d.offset)) = some (89, 6) := by kernel_rfl
theorem Try.ty_fo94_6 : ∃ d, fieldOf Try.prog 94 6 = some d ∧ d.type = 89 ∧ d.offset = 6 := fieldOf_some Try.ty_f94_6
theorem Try.ty_fa94_6 (x : AV) (rows : Nat → ARow) : aFieldAddr Try.prog 94 x 6 rows = fieldAddrA Try.prog 89 6 x rows := aFieldAddr_of Try.ty_fo94_6 x rows
theorem Try.ty_ff94_6 (x : AV) : aField Try.prog 94 x 6 = fieldA Try.prog 89 6 x := aField_of Try.ty_fo94_6 x
theorem Try.ty_f94_7 : (fieldOf Try.prog 94 7).map (fun d => (d.type, d.offset)) = some (90, 7) := by kernel_rfl
theorem Try.ty_fo94_7 : ∃ d, fieldOf Try.prog 94 7 = some d ∧ d.type = 90 ∧ d.offset = 7 := fieldOf_some Try.ty_f94_7
theorem Try.ty_fa94_7 (x : AV) (rows : Nat → ARow) : aFieldAddr Try.prog 94 x 7 rows = fieldAddrA Try.prog 90 7 x rows := aFieldAddr_of Try.ty_fo94_7 x rows
theorem Try.ty_ff94_7 (x : AV) : aField Try.prog 94 x 7 = fieldA Try.prog 90 7 x := aField_of Try.ty_fo94_7 x
theorem Try.ty_f94_8 : (fieldOf Try.prog 94 8).map (fun d => (d.type, d.offset)) = some (91, 8) := by kernel_rfl
theorem Try.ty_fo94_8 : ∃ d, fieldOf Try.prog 94 8 = some d ∧ d.type = 91 ∧ d.offset = 8 := fieldOf_some Try.ty_f94_8
theorem Try.ty_fa94_8 (x : AV) (rows : Nat → ARow) : aFieldAddr Try.prog 94 x 8 rows = fieldAddrA Try.prog 91 8 x rows := aFieldAddr_of Try.ty_fo94_8 x rows
theorem Try.ty_ff94_8 (x : AV) : aField Try.prog 94 x 8 = fieldA Try.prog 91 8 x := aField_of Try.ty_fo94_8 x
theorem Try.ty_f94_9 : (fieldOf Try.prog 94 9).map (fun d => (d.type, d.offset)) = some (92, 9) := by kernel_rfl
theorem Try.ty_fo94_9 : ∃ d, fieldOf Try.prog 94 9 = some d ∧ d.type = 92 ∧ d.offset = 9 := fieldOf_some Try.ty_f94_9
theorem Try.ty_fa94_9 (x : AV) (rows : Nat → ARow) : aFieldAddr Try.prog 94 x 9 rows = fieldAddrA Try.prog 92 9 x rows := aFieldAddr_of Try.ty_fo94_9 x rows
theorem Try.ty_ff94_9 (x : AV) : aField Try.prog 94 x 9 = fieldA Try.prog 92 9 x := aField_of Try.ty_fo94_9 x
theorem Try.ty_f94_10 : (fieldOf Try.prog 94 10).map (fun d => (d.type, d.offset)) = some (93, 10) := by kernel_rfl
theorem Try.ty_fo94_10 : ∃ d, fieldOf Try.prog 94 10 = some d ∧ d.type = 93 ∧ d.offset = 10 := fieldOf_some Try.ty_f94_10
theorem Try.ty_fa94_10 (x : AV) (rows : Nat → ARow) : aFieldAddr Try.prog 94 x 10 rows = fieldAddrA Try.prog 93 10 x rows := aFieldAddr_of Try.ty_fo94_10 x rows
theorem Try.ty_ff94_10 (x : AV) : aField Try.prog 94 x 10 = fieldA Try.prog 93 10 x := aField_of Try.ty_fo94_10 x
theorem Try.ty_bu94 (parts : List (Nat × AV)) : aBuild Try.prog 94 parts = (fillA (fun i => ([(0, 1), (1, 1), (2, 1), (3, 1), (4, 1), (5, 1), (6, 1), (7, 1), (8, 1), (9, 1), (10, 1)] : List (Nat × Nat))[i]?) [.int .u64 0, .int .u64 0, .int .u32 0, .int .u8 0, .int .u8 0, .int .u8 0, .int .u8 0, .nilfn, .nilptr, .int .i32 0, .int .i32 0] parts).map .agg := aBuild_struct (by kernel_rfl) (by kernel_rfl)
theorem Try.ty_size95 : tsize Try.prog 95 = some 11 := by kernel_rfl
theorem Try.ty_bytes95 : tbytes Try.prog 95 = some 48 := by kernel_rfl
theorem Try.ty_agg95 : tagg Try.prog 95 = some true := by kernel_rfl
theorem Try.ty_zero95 : tzero Try.prog 95 = some (.agg [.int .u64 0, .int .u64 0, .int .u32 0, .int .u8 0, .int .u8 0, .int .u8 0, .int .u8 0, .nilfn, .nilptr, .int .i32 0, .int .i32 0]) := by kernel_rfl
theorem Try.ty_sl95 : isSlice Try.prog 95 = false := by kernel_rfl
theorem Try.ty_b95 : isBool Try.prog 95 = false := by kernel_rfl
theorem Try.ty_f95_0 : (fieldOf Try.prog 95 0).map (fun d => (d.type, d.offset)) = some (12, 0) := by kernel_rfl
theorem Try.ty_fo95_0 : ∃ d, fieldOf Try.prog 95 0 = some d ∧ d.type = 12 ∧ d.offset = 0 := fieldOf_some Try.ty_f95_0
theorem Try.ty_fa95_0 (x : AV) (rows : Nat → ARow) : aFieldAddr Try.prog 95 x 0 rows = fieldAddrA Try.prog 12 0 x rows := aFieldAddr_of Try.ty_fo95_0 x rows
theorem Try.ty_ff95_0 (x : AV) : aField Try.prog 95 x 0 = fieldA Try.prog 12 0 x := aField_of Try.ty_fo95_0 x
theorem Try.ty_f95_1 : (fieldOf Try.prog 95 1).map (fun d => (d.type, d.offset)) = some (12, 1) := by kernel_rfl
theorem Try.ty_fo95_1 : ∃ d, fieldOf Try.prog 95 1 = some d ∧ d.type = 12 ∧ d.offset = 1 := fieldOf_some Try.ty_f95_1
theorem Try.ty_fa95_1 (x : AV) (rows : Nat → ARow) : aFieldAddr Try.prog 95 x 1 rows = fieldAddrA Try.prog 12 1 x rows := aFieldAddr_of Try.ty_fo95_1 x rows
theorem Try.ty_ff95_1 (x : AV) : aField Try.prog 95 x 1 = fieldA Try.prog 12 1 x := aField_of Try.ty_fo95_1 x
theorem Try.ty_f95_2 : (fieldOf Try.prog 95 2).map (fun d => (d.type, d.offset)) = some (87, 2) := by kernel_rfl
theorem Try.ty_fo95_2 : ∃ d, fieldOf Try.prog 95 2 = some d ∧ d.type = 87 ∧ d.offset = 2 := fieldOf_some Try.ty_f95_2
theorem Try.ty_fa95_2 (x : AV) (rows : Nat → ARow) : aFieldAddr Try.prog 95 x 2 rows = fieldAddrA Try.prog 87 2 x rows := aFieldAddr_of Try.ty_fo95_2 x rows
theorem Try.ty_ff95_2 (x : AV) : aField Try.prog 95 x 2 = fieldA Try.prog 87 2 x := aField_of Try.ty_fo95_2 x
theorem Try.ty_f95_3 : (fieldOf Try.prog 95 3).map (fun d => (d.type, d.offset)) = some (88, 3) := by kernel_rfl
theorem Try.ty_fo95_3 : ∃ d, fieldOf Try.prog 95 3 = some d ∧ d.type = 88 ∧ d.offset = 3 := fieldOf_some Try.ty_f95_3
theorem Try.ty_fa95_3 (x : AV) (rows : Nat → ARow) : aFieldAddr Try.prog 95 x 3 rows = fieldAddrA Try.prog 88 3 x rows := aFieldAddr_of Try.ty_fo95_3 x rows
theorem Try.ty_ff95_3 (x : AV) : aField Try.prog 95 x 3 = fieldA Try.prog 88 3 x := aField_of Try.ty_fo95_3 x
theorem Try.ty_f95_4 : (fieldOf Try.prog 95 4).map (fun d => (d.type, d.offset)) = some (5, 4) := by kernel_rfl
theorem Try.ty_fo95_4 : ∃ d, fieldOf Try.prog 95 4 = some d ∧ d.type = 5 ∧ d.offset = 4 := fieldOf_some Try.ty_f95_4
theorem Try.ty_fa95_4 (x : AV) (rows : Nat → ARow) : aFieldAddr Try.prog 95 x 4 rows = fieldAddrA Try.prog 5 4 x rows := aFieldAddr_of Try.ty_fo95_4 x rows
theorem Try.ty_ff95_4 (x : AV) : aField Try.prog 95 x 4 = fieldA Try.prog 5 4 x := aField_of Try.ty_fo95_4 x
theorem Try.ty_f95_5 : (fieldOf Try.prog 95 5).map (fun d => (d.type, d.offset)) = some (5, 5) := by kernel_rfl
theorem Try.ty_fo95_5 : ∃ d, fieldOf Try.prog 95 5 = some d ∧ d.type = 5 ∧ d.offset = 5 := fieldOf_some Try.ty_f95_5
theorem Try.ty_fa95_5 (x : AV) (rows : Nat → ARow) : aFieldAddr Try.prog 95 x 5 rows = fieldAddrA Try.prog 5 5 x rows := aFieldAddr_of Try.ty_fo95_5 x rows
theorem Try.ty_ff95_5 (x : AV) : aField Try.prog 95 x 5 = fieldA Try.prog 5 5 x := aField_of Try.ty_fo95_5 x
theorem Try.ty_f95_6 : (fieldOf Try.prog 95 6).map (fun d => (d.type, d.offset)) = some (89, 6) := by kernel_rfl
theorem Try.ty_fo95_6 : ∃ d, fieldOf Try.prog 95 6 = some d ∧ d.type = 89 ∧ d.offset = 6 := fieldOf_some Try.ty_f95_6
theorem Try.ty_fa95_6 (x : AV) (rows : Nat → ARow) : aFieldAddr Try.prog 95 x 6 rows = fieldAddrA Try.prog 89 6 x rows := aFieldAddr_of Try.ty_fo95_6 x rows
theorem Try.ty_ff95_6 (x : AV) : aField Try.prog 95 x 6 = fieldA Try.prog 89 6 x := aField_of Try.ty_fo95_6 x
theorem Try.ty_f95_7 : (fieldOf Try.prog 95 7).map (fun d => (d.type, d.offset)) = some (90, 7) := by kernel_rfl
theorem Try.ty_fo95_7 : ∃ d, fieldOf Try.prog 95 7 = some d ∧ d.type = 90 ∧ d.offset = 7 := fieldOf_some Try.ty_f95_7
theorem Try.ty_fa95_7 (x : AV) (rows : Nat → ARow) : aFieldAddr Try.prog 95 x 7 rows = fieldAddrA Try.prog 90 7 x rows := aFieldAddr_of Try.ty_fo95_7 x rows
theorem Try.ty_ff95_7 (x : AV) : aField Try.prog 95 x 7 = fieldA Try.prog 90 7 x := aField_of Try.ty_fo95_7 x
theorem Try.ty_f95_8 : (fieldOf Try.prog 95 8).map (fun d => (d.type, d.offset)) = some (91, 8) := by kernel_rfl
theorem Try.ty_fo95_8 : ∃ d, fieldOf Try.prog 95 8 = some d ∧ d.type = 91 ∧ d.offset = 8 := fieldOf_some Try.ty_f95_8
theorem Try.ty_fa95_8 (x : AV) (rows : Nat → ARow) : aFieldAddr Try.prog 95 x 8 rows = fieldAddrA Try.prog 91 8 x rows := aFieldAddr_of Try.ty_fo95_8 x rows
theorem Try.ty_ff95_8 (x : AV) : aField Try.prog 95 x 8 = fieldA Try.prog 91 8 x := aField_of Try.ty_fo95_8 x
theorem Try.ty_f95_9 : (fieldOf Try.prog 95 9).map (fun d => (d.type, d.offset)) = some (92, 9) := by kernel_rfl
theorem Try.ty_fo95_9 : ∃ d, fieldOf Try.prog 95 9 = some d ∧ d.type = 92 ∧ d.offset = 9 := fieldOf_some Try.ty_f95_9
theorem Try.ty_fa95_9 (x : AV) (rows : Nat → ARow) : aFieldAddr Try.prog 95 x 9 rows = fieldAddrA Try.prog 92 9 x rows := aFieldAddr_of Try.ty_fo95_9 x rows
theorem Try.ty_ff95_9 (x : AV) : aField Try.prog 95 x 9 = fieldA Try.prog 92 9 x := aField_of Try.ty_fo95_9 x
theorem Try.ty_f95_10 : (fieldOf Try.prog 95 10).map (fun d => (d.type, d.offset)) = some (93, 10) := by kernel_rfl
theorem Try.ty_fo95_10 : ∃ d, fieldOf Try.prog 95 10 = some d ∧ d.type = 93 ∧ d.offset = 10 := fieldOf_some Try.ty_f95_10
theorem Try.ty_fa95_10 (x : AV) (rows : Nat → ARow) : aFieldAddr Try.prog 95 x 10 rows = fieldAddrA Try.prog 93 10 x rows := aFieldAddr_of Try.ty_fo95_10 x rows
theorem Try.ty_ff95_10 (x : AV) : aField Try.prog 95 x 10 = fieldA Try.prog 93 10 x := aField_of Try.ty_fo95_10 x
theorem Try.ty_bu95 (parts : List (Nat × AV)) : aBuild Try.prog 95 parts = (fillA (fun i => ([(0, 1), (1, 1), (2, 1), (3, 1), (4, 1), (5, 1), (6, 1), (7, 1), (8, 1), (9, 1), (10, 1)] : List (Nat × Nat))[i]?) [.int .u64 0, .int .u64 0, .int .u32 0, .int .u8 0, .int .u8 0, .int .u8 0, .int .u8 0, .nilfn, .nilptr, .int .i32 0, .int .i32 0] parts).map .agg := aBuild_struct (by kernel_rfl) (by kernel_rfl)
theorem Try.ty_size96 : tsize Try.prog 96 = some 1 := by kernel_rfl
theorem Try.ty_bytes96 : tbytes Try.prog 96 = some 8 := by kernel_rfl
theorem Try.ty_agg96 : tagg Try.prog 96 = some false := by kernel_rfl
theorem Try.ty_zero96 : tzero Try.prog 96 = some (.nilptr) := by kernel_rfl
theorem Try.ty_sl96 : isSlice Try.prog 96 = false := by kernel_rfl
theorem Try.ty_b96 : isBool Try.prog 96 = false := by kernel_rfl
/-- All of them, for simp. -/
theorem tyS : type_of% ((And.intro (And.intro (And.intro (And.intro (And.intro (And.intro (And.intro (And.intro (And.intro Try.ty_size1 Try.ty_agg1) (And.intro Try.ty_zero1 Try.ty_size2)) (And.intro (And.intro Try.ty_bytes2 Try.ty_agg2) (And.intro Try.ty_zero2 (And.intro Try.ty_sl2 Try.ty_b2)))) (And.intro (And.intro (And.intro Try.ty_u2 Try.ty_size3) (And.intro Try.ty_bytes3 (And.intro Try.ty_agg3 Try.ty_zero3))) (And.intro (And.intro Try.ty_sl3 Try.ty_b3) (And.intro Try.ty_u3 (And.intro Try.ty_size4 Try.ty_bytes4))))) (And.intro (And.intro (And.intro (And.intro Try.ty_agg4 Try.ty_zero4) (And.intro Try.ty_sl4 Try.ty_b4)) (And.intro (And.intro Try.ty_size5 Try.ty_bytes5) (And.intro Try.ty_agg5 (And.intro Try.ty_zero5 Try.ty_sl5)))) (And.intro (And.intro (And.intro Try.ty_b5 Try.ty_u5) (And.intro Try.ty_size6 (And.intro Try.ty_bytes6 Try.ty_agg6))) (And.intro (And.intro Try.ty_zero6 Try.ty_sl6) (And.intro Try.ty_b6 (And.intro Try.ty_u6 Try.ty_size7)))))) (And.intro (And.intro (And.intro (And.intro (And.intro Try.ty_bytes7 Try.ty_agg7) (And.intro Try.ty_zero7 Try.ty_sl7)) (And.intro (And.intro Try.ty_b7 Try.ty_fa7_0) (And.intro Try.ty_ff7_0 (And.intro Try.ty_fa7_1 Try.ty_ff7_1)))) (And.intro (And.intro (And.intro Try.ty_fa7_2 Try.ty_ff7_2) (And.intro Try.ty_fa7_3 (And.intro Try.ty_ff7_3 Try.ty_bu7))) (And.intro (And.intro Try.ty_size8 Try.ty_bytes8) (And.intro Try.ty_agg8 (And.intro Try.ty_zero8 Try.ty_sl8))))) (And.intro (And.intro (And.intro (And.intro Try.ty_b8 Try.ty_fa8_0) (And.intro Try.ty_ff8_0 Try.ty_fa8_1)) (And.intro (And.intro Try.ty_ff8_1 Try.ty_fa8_2) (And.intro Try.ty_ff8_2 (And.intro Try.ty_fa8_3 Try.ty_ff8_3)))) (And.intro (And.intro (And.intro Try.ty_bu8 Try.ty_size9) (And.intro Try.ty_bytes9 (And.intro Try.ty_agg9 Try.ty_zero9))) (And.intro (And.intro Try.ty_sl9 Try.ty_ni9) (And.intro Try.ty_b9 (And.intro Try.ty_u9 Try.ty_size10))))))) (And.intro (And.intro (And.intro (And.intro (And.intro (And.intro Try.ty_bytes10 Try.ty_agg10) (And.intro Try.ty_zero10 Try.ty_sl10)) (And.intro (And.intro Try.ty_ni10 Try.ty_b10) (And.intro Try.ty_u10 (And.intro Try.ty_size11 Try.ty_bytes11)))) (And.intro (And.intro (And.intro Try.ty_agg11 Try.ty_zero11) (And.intro Try.ty_sl11 (And.intro Try.ty_ni11 Try.ty_b11))) (And.intro (And.intro Try.ty_u11 Try.ty_size12) (And.intro Try.ty_bytes12 (And.intro Try.ty_agg12 Try.ty_zero12))))) (And.intro (And.intro (And.intro (And.intro Try.ty_sl12 Try.ty_b12) (And.intro Try.ty_u12 Try.ty_size13)) (And.intro (And.intro Try.ty_bytes13 Try.ty_agg13) (And.intro Try.ty_zero13 (And.intro Try.ty_sl13 Try.ty_b13)))) (And.intro (And.intro (And.intro Try.ty_fa13_0 Try.ty_ff13_0) (And.intro Try.ty_fa13_1 (And.intro Try.ty_ff13_1 Try.ty_bu13))) (And.intro (And.intro Try.ty_size14 Try.ty_bytes14) (And.intro Try.ty_agg14 (And.intro Try.ty_zero14 Try.ty_sl14)))))) (And.intro (And.intro (And.intro (And.intro (And.intro Try.ty_b14 Try.ty_fa14_0) (And.intro Try.ty_ff14_0 Try.ty_fa14_1)) (And.intro (And.intro Try.ty_ff14_1 Try.ty_bu14) (And.intro Try.ty_size15 (And.intro Try.ty_bytes15 Try.ty_agg15)))) (And.intro (And.intro (And.intro Try.ty_zero15 Try.ty_sl15) (And.intro Try.ty_b15 (And.intro Try.ty_size16 Try.ty_bytes16))) (And.intro (And.intro Try.ty_agg16 Try.ty_zero16) (And.intro Try.ty_sl16 (And.intro Try.ty_b16 Try.ty_size17))))) (And.intro (And.intro (And.intro (And.intro Try.ty_bytes17 Try.ty_agg17) (And.intro Try.ty_zero17 (And.intro Try.ty_sl17 Try.ty_b17))) (And.intro (And.intro Try.ty_size18 Try.ty_bytes18) (And.intro Try.ty_agg18 (And.intro Try.ty_zero18 Try.ty_sl18)))) (And.intro (And.intro (And.intro Try.ty_b18 Try.ty_fa18_0) (And.intro Try.ty_ff18_0 (And.intro Try.ty_bu18 Try.ty_size19))) (And.intro (And.intro Try.ty_bytes19 Try.ty_agg19) (And.intro Try.ty_zero19 (And.intro Try.ty_sl19 Try.ty_b19)))))))) (And.intro (And.intro (And.intro (And.intro (And.intro (And.intro (And.intro Try.ty_fa19_0 Try.ty_ff19_0) (And.intro Try.ty_bu19 Try.ty_size21)) (And.intro (And.intro Try.ty_bytes21 Try.ty_agg21) (And.intro Try.ty_zero21 (And.intro Try.ty_sl21 Try.ty_b21)))) (And.intro (And.intro (And.intro Try.ty_u21 Try.ty_size22) (And.intro Try.ty_bytes22 (And.intro Try.ty_agg22 Try.ty_zero22))) (And.intro (And.intro Try.ty_elem22 Try.ty_sl22) (And.intro Try.ty_ni22 (And.intro Try.ty_b22 Try.ty_u22))))) (And.intro (And.intro (And.intro (And.intro Try.ty_size23 Try.ty_bytes23) (And.intro Try.ty_agg23 Try.ty_zero23)) (And.intro (And.intro Try.ty_elem23 Try.ty_sl23) (And.intro Try.ty_ni23 (And.intro Try.ty_b23 Try.ty_u23)))) (And.intro (And.intro (And.intro Try.ty_size24 Try.ty_agg24) (And.intro Try.ty_zero24 (And.intro Try.ty_size25 Try.ty_agg25))) (And.intro (And.intro Try.ty_zero25 Try.ty_size26) (And.intro Try.ty_bytes26 (And.intro Try.ty_agg26 Try.ty_zero26)))))) (And.intro (And.intro (And.intro (And.intro (And.intro Try.ty_elem26 Try.ty_sl26) (And.intro Try.ty_ni26 Try.ty_b26)) (And.intro (And.intro Try.ty_u26 Try.ty_size27) (And.intro Try.ty_agg27 (And.intro Try.ty_zero27 Try.ty_size28)))) (And.intro (And.intro (And.intro Try.ty_bytes28 Try.ty_agg28) (And.intro Try.ty_zero28 (And.intro Try.ty_elem28 Try.ty_sl28))) (And.intro (And.intro Try.ty_ni28 Try.ty_b28) (And.intro Try.ty_u28 (And.intro Try.ty_size29 Try.ty_agg29))))) (And.intro (And.intro (And.intro (And.intro Try.ty_zero29 Try.ty_size30) (And.intro Try.ty_agg30 Try.ty_zero30)) (And.intro (And.intro Try.ty_size31 Try.ty_agg31) (And.intro Try.ty_zero31 (And.intro Try.ty_size32 Try.ty_agg32)))) (And.intro (And.intro (And.intro Try.ty_zero32 Try.ty_size33) (And.intro Try.ty_agg33 (And.intro Try.ty_zero33 Try.ty_size34))) (And.intro (And.intro Try.ty_agg34 Try.ty_zero34) (And.intro Try.ty_size35 (And.intro Try.ty_agg35 Try.ty_zero35))))))) (And.intro (And.intro (And.intro (And.intro (And.intro (And.intro Try.ty_size36 Try.ty_agg36) (And.intro Try.ty_zero36 Try.ty_size37)) (And.intro (And.intro Try.ty_agg37 Try.ty_zero37) (And.intro Try.ty_size38 (And.intro Try.ty_bytes38 Try.ty_agg38)))) (And.intro (And.intro (And.intro Try.ty_zero38 Try.ty_sl38) (And.intro Try.ty_b38 (And.intro Try.ty_u38 Try.ty_size40))) (And.intro (And.intro Try.ty_agg40 Try.ty_zero40) (And.intro Try.ty_size41 (And.intro Try.ty_agg41 Try.ty_zero41))))) (And.intro (And.intro (And.intro (And.intro Try.ty_size43 Try.ty_agg43) (And.intro Try.ty_zero43 Try.ty_size44)) (And.intro (And.intro Try.ty_agg44 Try.ty_zero44) (And.intro Try.ty_size45 (And.intro Try.ty_agg45 Try.ty_zero45)))) (And.intro (And.intro (And.intro Try.ty_size46 Try.ty_bytes46) (And.intro Try.ty_agg46 (And.intro Try.ty_zero46 Try.ty_elem46))) (And.intro (And.intro Try.ty_sl46 Try.ty_ni46) (And.intro Try.ty_b46 (And.intro Try.ty_u46 Try.ty_size47)))))) (And.intro (And.intro (And.intro (And.intro (And.intro Try.ty_bytes47 Try.ty_agg47) (And.intro Try.ty_zero47 Try.ty_sl47)) (And.intro (And.intro Try.ty_b47 Try.ty_fa47_0) (And.intro Try.ty_ff47_0 (And.intro Try.ty_fa47_1 Try.ty_ff47_1)))) (And.intro (And.intro (And.intro Try.ty_fa47_2 Try.ty_ff47_2) (And.intro Try.ty_fa47_3 (And.intro Try.ty_ff47_3 Try.ty_bu47))) (And.intro (And.intro Try.ty_size48 Try.ty_bytes48) (And.intro Try.ty_agg48 (And.intro Try.ty_zero48 Try.ty_sl48))))) (And.intro (And.intro (And.intro (And.intro Try.ty_b48 Try.ty_fa48_0) (And.intro Try.ty_ff48_0 (And.intro Try.ty_fa48_1 Try.ty_ff48_1))) (And.intro (And.intro Try.ty_fa48_2 Try.ty_ff48_2) (And.intro Try.ty_fa48_3 (And.intro Try.ty_ff48_3 Try.ty_bu48)))) (And.intro (And.intro (And.intro Try.ty_size49 Try.ty_bytes49) (And.intro Try.ty_agg49 (And.intro Try.ty_zero49 Try.ty_sl49))) (And.intro (And.intro Try.ty_b49 Try.ty_fa49_0) (And.intro Try.ty_ff49_0 (And.intro Try.ty_fa49_1 Try.ty_ff49_1))))))))) (And.intro (And.intro (And.intro (And.intro (And.intro (And.intro (And.intro (And.intro Try.ty_fa49_2 Try.ty_ff49_2) (And.intro Try.ty_bu49 Try.ty_size50)) (And.intro (And.intro Try.ty_bytes50 Try.ty_agg50) (And.intro Try.ty_zero50 (And.intro Try.ty_sl50 Try.ty_b50)))) (And.intro (And.intro (And.intro Try.ty_fa50_0 Try.ty_ff50_0) (And.intro Try.ty_fa50_1 (And.intro Try.ty_ff50_1 Try.ty_fa50_2))) (And.intro (And.intro Try.ty_ff50_2 Try.ty_bu50) (And.intro Try.ty_size51 (And.intro Try.ty_agg51 Try.ty_zero51))))) (And.intro (And.intro (And.intro (And.intro Try.ty_size52 Try.ty_agg52) (And.intro Try.ty_zero52 Try.ty_size53)) (And.intro (And.intro Try.ty_agg53 Try.ty_zero53) (And.intro Try.ty_size54 (And.intro Try.ty_agg54 Try.ty_zero54)))) (And.intro (And.intro (And.intro Try.ty_size55 Try.ty_bytes55) (And.intro Try.ty_agg55 (And.intro Try.ty_zero55 Try.ty_sl55))) (And.intro (And.intro Try.ty_b55 Try.ty_u55) (And.intro Try.ty_size56 (And.intro Try.ty_bytes56 Try.ty_agg56)))))) (And.intro (And.intro (And.intro (And.intro (And.intro Try.ty_zero56 Try.ty_sl56) (And.intro Try.ty_b56 Try.ty_map56)) (And.intro (And.intro Try.ty_u56 Try.ty_size57) (And.intro Try.ty_bytes57 (And.intro Try.ty_agg57 Try.ty_zero57)))) (And.intro (And.intro (And.intro Try.ty_sl57 Try.ty_b57) (And.intro Try.ty_fa57_0 (And.intro Try.ty_ff57_0 Try.ty_fa57_1))) (And.intro (And.intro Try.ty_ff57_1 Try.ty_fa57_2) (And.intro Try.ty_ff57_2 (And.intro Try.ty_bu57 Try.ty_size58))))) (And.intro (And.intro (And.intro (And.intro Try.ty_agg58 Try.ty_zero58) (And.intro Try.ty_size59 Try.ty_agg59)) (And.intro (And.intro Try.ty_zero59 Try.ty_size60) (And.intro Try.ty_agg60 (And.intro Try.ty_zero60 Try.ty_size61)))) (And.intro (And.intro (And.intro Try.ty_agg61 Try.ty_zero61) (And.intro Try.ty_size62 (And.intro Try.ty_agg62 Try.ty_zero62))) (And.intro (And.intro Try.ty_size63 Try.ty_bytes63) (And.intro Try.ty_agg63 (And.intro Try.ty_zero63 Try.ty_sl63))))))) (And.intro (And.intro (And.intro (And.intro (And.intro (And.intro Try.ty_b63 Try.ty_u63) (And.intro Try.ty_bu63 Try.ty_size64)) (And.intro (And.intro Try.ty_bytes64 Try.ty_agg64) (And.intro Try.ty_zero64 (And.intro Try.ty_sl64 Try.ty_b64)))) (And.intro (And.intro (And.intro Try.ty_u64 Try.ty_bu64) (And.intro Try.ty_size65 (And.intro Try.ty_bytes65 Try.ty_agg65))) (And.intro (And.intro Try.ty_zero65 Try.ty_sl65) (And.intro Try.ty_b65 (And.intro Try.ty_map65 Try.ty_u65))))) (And.intro (And.intro (And.intro (And.intro Try.ty_size66 Try.ty_agg66) (And.intro Try.ty_zero66 Try.ty_size67)) (And.intro (And.intro Try.ty_agg67 Try.ty_zero67) (And.intro Try.ty_size69 (And.intro Try.ty_agg69 Try.ty_zero69)))) (And.intro (And.intro (And.intro Try.ty_size70 Try.ty_bytes70) (And.intro Try.ty_agg70 (And.intro Try.ty_zero70 Try.ty_sl70))) (And.intro (And.intro Try.ty_b70 Try.ty_map70) (And.intro Try.ty_u70 (And.intro Try.ty_size71 Try.ty_agg71)))))) (And.intro (And.intro (And.intro (And.intro (And.intro Try.ty_zero71 Try.ty_size72) (And.intro Try.ty_agg72 Try.ty_zero72)) (And.intro (And.intro Try.ty_size73 Try.ty_agg73) (And.intro Try.ty_zero73 (And.intro Try.ty_size74 Try.ty_agg74)))) (And.intro (And.intro (And.intro Try.ty_zero74 Try.ty_size75) (And.intro Try.ty_agg75 (And.intro Try.ty_zero75 Try.ty_size76))) (And.intro (And.intro Try.ty_agg76 Try.ty_zero76) (And.intro Try.ty_size77 (And.intro Try.ty_agg77 Try.ty_zero77))))) (And.intro (And.intro (And.intro (And.intro Try.ty_size79 Try.ty_agg79) (And.intro Try.ty_zero79 (And.intro Try.ty_size80 Try.ty_agg80))) (And.intro (And.intro Try.ty_zero80 Try.ty_size81) (And.intro Try.ty_bytes81 (And.intro Try.ty_agg81 Try.ty_zero81)))) (And.intro (And.intro (And.intro Try.ty_sl81 Try.ty_b81) (And.intro Try.ty_fa81_0 (And.intro Try.ty_ff81_0 Try.ty_fa81_1))) (And.intro (And.intro Try.ty_ff81_1 Try.ty_fa81_2) (And.intro Try.ty_ff81_2 (And.intro Try.ty_fa81_3 Try.ty_ff81_3)))))))) (And.intro (And.intro (And.intro (And.intro (And.intro (And.intro (And.intro Try.ty_bu81 Try.ty_size82) (And.intro Try.ty_bytes82 Try.ty_agg82)) (And.intro (And.intro Try.ty_zero82 Try.ty_sl82) (And.intro Try.ty_b82 (And.intro Try.ty_fa82_0 Try.ty_ff82_0)))) (And.intro (And.intro (And.intro Try.ty_fa82_1 Try.ty_ff82_1) (And.intro Try.ty_fa82_2 (And.intro Try.ty_ff82_2 Try.ty_fa82_3))) (And.intro (And.intro Try.ty_ff82_3 Try.ty_bu82) (And.intro Try.ty_size83 (And.intro Try.ty_bytes83 Try.ty_agg83))))) (And.intro (And.intro (And.intro (And.intro Try.ty_zero83 Try.ty_sl83) (And.intro Try.ty_b83 Try.ty_u83)) (And.intro (And.intro Try.ty_bu83 Try.ty_size84) (And.intro Try.ty_bytes84 (And.intro Try.ty_agg84 Try.ty_zero84)))) (And.intro (And.intro (And.intro Try.ty_sl84 Try.ty_b84) (And.intro Try.ty_fa84_0 (And.intro Try.ty_ff84_0 Try.ty_bu84))) (And.intro (And.intro Try.ty_size85 Try.ty_bytes85) (And.intro Try.ty_agg85 (And.intro Try.ty_zero85 Try.ty_sl85)))))) (And.intro (And.intro (And.intro (And.intro (And.intro Try.ty_b85 Try.ty_fa85_0) (And.intro Try.ty_ff85_0 Try.ty_bu85)) (And.intro (And.intro Try.ty_size86 Try.ty_agg86) (And.intro Try.ty_zero86 (And.intro Try.ty_size87 Try.ty_bytes87)))) (And.intro (And.intro (And.intro Try.ty_agg87 Try.ty_zero87) (And.intro Try.ty_sl87 (And.intro Try.ty_b87 Try.ty_u87))) (And.intro (And.intro Try.ty_size88 Try.ty_bytes88) (And.intro Try.ty_agg88 (And.intro Try.ty_zero88 Try.ty_sl88))))) (And.intro (And.intro (And.intro (And.intro Try.ty_b88 Try.ty_u88) (And.intro Try.ty_size89 Try.ty_bytes89)) (And.intro (And.intro Try.ty_agg89 Try.ty_zero89) (And.intro Try.ty_sl89 (And.intro Try.ty_b89 Try.ty_u89)))) (And.intro (And.intro (And.intro Try.ty_size90 Try.ty_agg90) (And.intro Try.ty_zero90 (And.intro Try.ty_size91 Try.ty_bytes91))) (And.intro (And.intro Try.ty_agg91 Try.ty_zero91) (And.intro Try.ty_sl91 (And.intro Try.ty_b91 Try.ty_size92))))))) (And.intro (And.intro (And.intro (And.intro (And.intro (And.intro Try.ty_bytes92 Try.ty_agg92) (And.intro Try.ty_zero92 Try.ty_sl92)) (And.intro (And.intro Try.ty_b92 Try.ty_u92) (And.intro Try.ty_size93 (And.intro Try.ty_bytes93 Try.ty_agg93)))) (And.intro (And.intro (And.intro Try.ty_zero93 Try.ty_sl93) (And.intro Try.ty_b93 (And.intro Try.ty_u93 Try.ty_size94))) (And.intro (And.intro Try.ty_bytes94 Try.ty_agg94) (And.intro Try.ty_zero94 (And.intro Try.ty_sl94 Try.ty_b94))))) (And.intro (And.intro (And.intro (And.intro Try.ty_fa94_0 Try.ty_ff94_0) (And.intro Try.ty_fa94_1 Try.ty_ff94_1)) (And.intro (And.intro Try.ty_fa94_2 Try.ty_ff94_2) (And.intro Try.ty_fa94_3 (And.intro Try.ty_ff94_3 Try.ty_fa94_4)))) (And.intro (And.intro (And.intro Try.ty_ff94_4 Try.ty_fa94_5) (And.intro Try.ty_ff94_5 (And.intro Try.ty_fa94_6 Try.ty_ff94_6))) (And.intro (And.intro Try.ty_fa94_7 Try.ty_ff94_7) (And.intro Try.ty_fa94_8 (And.intro Try.ty_ff94_8 Try.ty_fa94_9)))))) (And.intro (And.intro (And.intro (And.intro (And.intro Try.ty_ff94_9 Try.ty_fa94_10) (And.intro Try.ty_ff94_10 Try.ty_bu94)) (And.intro (And.intro Try.ty_size95 Try.ty_bytes95) (And.intro Try.ty_agg95 (And.intro Try.ty_zero95 Try.ty_sl95)))) (And.intro (And.intro (And.intro Try.ty_b95 Try.ty_fa95_0) (And.intro Try.ty_ff95_0 (And.intro Try.ty_fa95_1 Try.ty_ff95_1))) (And.intro (And.intro Try.ty_fa95_2 Try.ty_ff95_2) (And.intro Try.ty_fa95_3 (And.intro Try.ty_ff95_3 Try.ty_fa95_4))))) (And.intro (And.intro (And.intro (And.intro Try.ty_ff95_4 Try.ty_fa95_5) (And.intro Try.ty_ff95_5 (And.intro Try.ty_fa95_6 Try.ty_ff95_6))) (And.intro (And.intro Try.ty_fa95_7 Try.ty_ff95_7) (And.intro Try.ty_fa95_8 (And.intro Try.ty_ff95_8 Try.ty_fa95_9)))) (And.intro (And.intro (And.intro Try.ty_ff95_9 Try.ty_fa95_10) (And.intro Try.ty_ff95_10 (And.intro Try.ty_bu95 Try.ty_size96))) (And.intro (And.intro Try.ty_bytes96 Try.ty_agg96) (And.intro Try.ty_zero96 (And.intro Try.ty_sl96 Try.ty_b96))))))))))) := (And.intro (And.intro (And.intro (And.intro (And.intro (And.intro (And.intro (And.intro (And.intro Try.ty_size1 Try.ty_agg1) (And.intro Try.ty_zero1 Try.ty_size2)) (And.intro (And.intro Try.ty_bytes2 Try.ty_agg2) (And.intro Try.ty_zero2 (And.intro Try.ty_sl2 Try.ty_b2)))) (And.intro (And.intro (And.intro Try.ty_u2 Try.ty_size3) (And.intro Try.ty_bytes3 (And.intro Try.ty_agg3 Try.ty_zero3))) (And.intro (And.intro Try.ty_sl3 Try.ty_b3) (And.intro Try.ty_u3 (And.intro Try.ty_size4 Try.ty_bytes4))))) (And.intro (And.intro (And.intro (And.intro Try.ty_agg4 Try.ty_zero4) (And.intro Try.ty_sl4 Try.ty_b4)) (And.intro (And.intro Try.ty_size5 Try.ty_bytes5) (And.intro Try.ty_agg5 (And.intro Try.ty_zero5 Try.ty_sl5)))) (And.intro (And.intro (And.intro Try.ty_b5 Try.ty_u5) (And.intro Try.ty_size6 (And.intro Try.ty_bytes6 Try.ty_agg6))) (And.intro (And.intro Try.ty_zero6 Try.ty_sl6) (And.intro Try.ty_b6 (And.intro Try.ty_u6 Try.ty_size7)))))) (And.intro (And.intro (And.intro (And.intro (And.intro Try.ty_bytes7 Try.ty_agg7) (And.intro Try.ty_zero7 Try.ty_sl7)) (And.intro (And.intro Try.ty_b7 Try.ty_fa7_0) (And.intro Try.ty_ff7_0 (And.intro Try.ty_fa7_1 Try.ty_ff7_1)))) (And.intro (And.intro (And.intro Try.ty_fa7_2 Try.ty_ff7_2) (And.intro Try.ty_fa7_3 (And.intro Try.ty_ff7_3 Try.ty_bu7))) (And.intro (And.intro Try.ty_size8 Try.ty_bytes8) (And.intro Try.ty_agg8 (And.intro Try.ty_zero8 Try.ty_sl8))))) (And.intro (And.intro (And.intro (And.intro Try.ty_b8 Try.ty_fa8_0) (And.intro Try.ty_ff8_0 Try.ty_fa8_1)) (And.intro (And.intro Try.ty_ff8_1 Try.ty_fa8_2) (And.intro Try.ty_ff8_2 (And.intro Try.ty_fa8_3 Try.ty_ff8_3)))) (And.intro (And.intro (And.intro Try.ty_bu8 Try.ty_size9) (And.intro Try.ty_bytes9 (And.intro Try.ty_agg9 Try.ty_zero9))) (And.intro (And.intro Try.ty_sl9 Try.ty_ni9) (And.intro Try.ty_b9 (And.intro Try.ty_u9 Try.ty_size10))))))) (And.intro (And.intro (And.intro (And.intro (And.intro (And.intro Try.ty_bytes10 Try.ty_agg10) (And.intro Try.ty_zero10 Try.ty_sl10)) (And.intro (And.intro Try.ty_ni10 Try.ty_b10) (And.intro Try.ty_u10 (And.intro Try.ty_size11 Try.ty_bytes11)))) (And.intro (And.intro (And.intro Try.ty_agg11 Try.ty_zero11) (And.intro Try.ty_sl11 (And.intro Try.ty_ni11 Try.ty_b11))) (And.intro (And.intro Try.ty_u11 Try.ty_size12) (And.intro Try.ty_bytes12 (And.intro Try.ty_agg12 Try.ty_zero12))))) (And.intro (And.intro (And.intro (And.intro Try.ty_sl12 Try.ty_b12) (And.intro Try.ty_u12 Try.ty_size13)) (And.intro (And.intro Try.ty_bytes13 Try.ty_agg13) (And.intro Try.ty_zero13 (And.intro Try.ty_sl13 Try.ty_b13)))) (And.intro (And.intro (And.intro Try.ty_fa13_0 Try.ty_ff13_0) (And.intro Try.ty_fa13_1 (And.intro Try.ty_ff13_1 Try.ty_bu13))) (And.intro (And.intro Try.ty_size14 Try.ty_bytes14) (And.intro Try.ty_agg14 (And.intro Try.ty_zero14 Try.ty_sl14)))))) (And.intro (And.intro (And.intro (And.intro (And.intro Try.ty_b14 Try.ty_fa14_0) (And.intro Try.ty_ff14_0 Try.ty_fa14_1)) (And.intro (And.intro Try.ty_ff14_1 Try.ty_bu14) (And.intro Try.ty_size15 (And.intro Try.ty_bytes15 Try.ty_agg15)))) (And.intro (And.intro (And.intro Try.ty_zero15 Try.ty_sl15) (And.intro Try.ty_b15 (And.intro Try.ty_size16 Try.ty_bytes16))) (And.intro (And.intro Try.ty_agg16 Try.ty_zero16) (And.intro Try.ty_sl16 (And.intro Try.ty_b16 Try.ty_size17))))) (And.intro (And.intro (And.intro (And.intro Try.ty_bytes17 Try.ty_agg17) (And.intro Try.ty_zero17 (And.intro Try.ty_sl17 Try.ty_b17))) (And.intro (And.intro Try.ty_size18 Try.ty_bytes18) (And.intro Try.ty_agg18 (And.intro Try.ty_zero18 Try.ty_sl18)))) (And.intro (And.intro (And.intro Try.ty_b18 Try.ty_fa18_0) (And.intro Try.ty_ff18_0 (And.intro Try.ty_bu18 Try.ty_size19))) (And.intro (And.intro Try.ty_bytes19 Try.ty_agg19) (And.intro Try.ty_zero19 (And.intro Try.ty_sl19 Try.ty_b19)))))))) (And.intro (And.intro (And.intro (And.intro (And.intro (And.intro (And.intro Try.ty_fa19_0 Try.ty_ff19_0) (And.intro Try.ty_bu19 Try.ty_size21)) (And.intro (And.intro Try.ty_bytes21 Try.ty_agg21) (And.intro Try.ty_zero21 (And.intro Try.ty_sl21 Try.ty_b21)))) (And.intro (And.intro (And.intro Try.ty_u21 Try.ty_size22) (And.intro Try.ty_bytes22 (And.intro Try.ty_agg22 Try.ty_zero22))) (And.intro (And.intro Try.ty_elem22 Try.ty_sl22) (And.intro Try.ty_ni22 (And.intro Try.ty_b22 Try.ty_u22))))) (And.intro (And.intro (And.intro (And.intro Try.ty_size23 Try.ty_bytes23) (And.intro Try.ty_agg23 Try.ty_zero23)) (And.intro (And.intro Try.ty_elem23 Try.ty_sl23) (And.intro Try.ty_ni23 (And.intro Try.ty_b23 Try.ty_u23)))) (And.intro (And.intro (And.intro Try.ty_size24 Try.ty_agg24) (And.intro Try.ty_zero24 (And.intro Try.ty_size25 Try.ty_agg25))) (And.intro (And.intro Try.ty_zero25 Try.ty_size26) (And.intro Try.ty_bytes26 (And.intro Try.ty_agg26 Try.ty_zero26)))))) (And.intro (And.intro (And.intro (And.intro (And.intro Try.ty_elem26 Try.ty_sl26) (And.intro Try.ty_ni26 Try.ty_b26)) (And.intro (And.intro Try.ty_u26 Try.ty_size27) (And.intro Try.ty_agg27 (And.intro Try.ty_zero27 Try.ty_size28)))) (And.intro (And.intro (And.intro Try.ty_bytes28 Try.ty_agg28) (And.intro Try.ty_zero28 (And.intro Try.ty_elem28 Try.ty_sl28))) (And.intro (And.intro Try.ty_ni28 Try.ty_b28) (And.intro Try.ty_u28 (And.intro Try.ty_size29 Try.ty_agg29))))) (And.intro (And.intro (And.intro (And.intro Try.ty_zero29 Try.ty_size30) (And.intro Try.ty_agg30 Try.ty_zero30)) (And.intro (And.intro Try.ty_size31 Try.ty_agg31) (And.intro Try.ty_zero31 (And.intro Try.ty_size32 Try.ty_agg32)))) (And.intro (And.intro (And.intro Try.ty_zero32 Try.ty_size33) (And.intro Try.ty_agg33 (And.intro Try.ty_zero33 Try.ty_size34))) (And.intro (And.intro Try.ty_agg34 Try.ty_zero34) (And.intro Try.ty_size35 (And.intro Try.ty_agg35 Try.ty_zero35))))))) (And.intro (And.intro (And.intro (And.intro (And.intro (And.intro Try.ty_size36 Try.ty_agg36) (And.intro Try.ty_zero36 Try.ty_size37)) (And.intro (And.intro Try.ty_agg37 Try.ty_zero37) (And.intro Try.ty_size38 (And.intro Try.ty_bytes38 Try.ty_agg38)))) (And.intro (And.intro (And.intro Try.ty_zero38 Try.ty_sl38) (And.intro Try.ty_b38 (And.intro Try.ty_u38 Try.ty_size40))) (And.intro (And.intro Try.ty_agg40 Try.ty_zero40) (And.intro Try.ty_size41 (And.intro Try.ty_agg41 Try.ty_zero41))))) (And.intro (And.intro (And.intro (And.intro Try.ty_size43 Try.ty_agg43) (And.intro Try.ty_zero43 Try.ty_size44)) (And.intro (And.intro Try.ty_agg44 Try.ty_zero44) (And.intro Try.ty_size45 (And.intro Try.ty_agg45 Try.ty_zero45)))) (And.intro (And.intro (And.intro Try.ty_size46 Try.ty_bytes46) (And.intro Try.ty_agg46 (And.intro Try.ty_zero46 Try.ty_elem46))) (And.intro (And.intro Try.ty_sl46 Try.ty_ni46) (And.intro Try.ty_b46 (And.intro Try.ty_u46 Try.ty_size47)))))) (And.intro (And.intro (And.intro (And.intro (And.intro Try.ty_bytes47 Try.ty_agg47) (And.intro Try.ty_zero47 Try.ty_sl47)) (And.intro (And.intro Try.ty_b47 Try.ty_fa47_0) (And.intro Try.ty_ff47_0 (And.intro Try.ty_fa47_1 Try.ty_ff47_1)))) (And.intro (And.intro (And.intro Try.ty_fa47_2 Try.ty_ff47_2) (And.intro Try.ty_fa47_3 (And.intro Try.ty_ff47_3 Try.ty_bu47))) (And.intro (And.intro Try.ty_size48 Try.ty_bytes48) (And.intro Try.ty_agg48 (And.intro Try.ty_zero48 Try.ty_sl48))))) (And.intro (And.intro (And.intro (And.intro Try.ty_b48 Try.ty_fa48_0) (And.intro Try.ty_ff48_0 (And.intro Try.ty_fa48_1 Try.ty_ff48_1))) (And.intro (And.intro Try.ty_fa48_2 Try.ty_ff48_2) (And.intro Try.ty_fa48_3 (And.intro Try.ty_ff48_3 Try.ty_bu48)))) (And.intro (And.intro (And.intro Try.ty_size49 Try.ty_bytes49) (And.intro Try.ty_agg49 (And.intro Try.ty_zero49 Try.ty_sl49))) (And.intro (And.intro Try.ty_b49 Try.ty_fa49_0) (And.intro Try.ty_ff49_0 (And.intro Try.ty_fa49_1 Try.ty_ff49_1))))))))) (And.intro (And.intro (And.intro (And.intro (And.intro (And.intro (And.intro (And.intro Try.ty_fa49_2 Try.ty_ff49_2) (And.intro Try.ty_bu49 Try.ty_size50)) (And.intro (And.intro Try.ty_bytes50 Try.ty_agg50) (And.intro Try.ty_zero50 (And.intro Try.ty_sl50 Try.ty_b50)))) (And.intro (And.intro (And.intro Try.ty_fa50_0 Try.ty_ff50_0) (And.intro Try.ty_fa50_1 (And.intro Try.ty_ff50_1 Try.ty_fa50_2))) (And.intro (And.intro Try.ty_ff50_2 Try.ty_bu50) (And.intro Try.ty_size51 (And.intro Try.ty_agg51 Try.ty_zero51))))) (And.intro (And.intro (And.intro (And.intro Try.ty_size52 Try.ty_agg52) (And.intro Try.ty_zero52 Try.ty_size53)) (And.intro (And.intro Try.ty_agg53 Try.ty_zero53) (And.intro Try.ty_size54 (And.intro Try.ty_agg54 Try.ty_zero54)))) (And.intro (And.intro (And.intro Try.ty_size55 Try.ty_bytes55) (And.intro Try.ty_agg55 (And.intro Try.ty_zero55 Try.ty_sl55))) (And.intro (And.intro Try.ty_b55 Try.ty_u55) (And.intro Try.ty_size56 (And.intro Try.ty_bytes56 Try.ty_agg56)))))) (And.intro (And.intro (And.intro (And.intro (And.intro Try.ty_zero56 Try.ty_sl56) (And.intro Try.ty_b56 Try.ty_map56)) (And.intro (And.intro Try.ty_u56 Try.ty_size57) (And.intro Try.ty_bytes57 (And.intro Try.ty_agg57 Try.ty_zero57)))) (And.intro (And.intro (And.intro Try.ty_sl57 Try.ty_b57) (And.intro Try.ty_fa57_0 (And.intro Try.ty_ff57_0 Try.ty_fa57_1))) (And.intro (And.intro Try.ty_ff57_1 Try.ty_fa57_2) (And.intro Try.ty_ff57_2 (And.intro Try.ty_bu57 Try.ty_size58))))) (And.intro (And.intro (And.intro (And.intro Try.ty_agg58 Try.ty_zero58) (And.intro Try.ty_size59 Try.ty_agg59)) (And.intro (And.intro Try.ty_zero59 Try.ty_size60) (And.intro Try.ty_agg60 (And.intro Try.ty_zero60 Try.ty_size61)))) (And.intro (And.intro (And.intro Try.ty_agg61 Try.ty_zero61) (And.intro Try.ty_size62 (And.intro Try.ty_agg62 Try.ty_zero62))) (And.intro (And.intro Try.ty_size63 Try.ty_bytes63) (And.intro Try.ty_agg63 (And.intro Try.ty_zero63 Try.ty_sl63))))))) (And.intro (And.intro (And.intro (And.intro (And.intro (And.intro Try.ty_b63 Try.ty_u63) (And.intro Try.ty_bu63 Try.ty_size64)) (And.intro (And.intro Try.ty_bytes64 Try.ty_agg64) (And.intro Try.ty_zero64 (And.intro Try.ty_sl64 Try.ty_b64)))) (And.intro (And.intro (And.intro Try.ty_u64 Try.ty_bu64) (And.intro Try.ty_size65 (And.intro Try.ty_bytes65 Try.ty_agg65))) (And.intro (And.intro Try.ty_zero65 Try.ty_sl65) (And.intro Try.ty_b65 (And.intro Try.ty_map65 Try.ty_u65))))) (And.intro (And.intro (And.intro (And.intro Try.ty_size66 Try.ty_agg66) (And.intro Try.ty_zero66 Try.ty_size67)) (And.intro (And.intro Try.ty_agg67 Try.ty_zero67) (And.intro Try.ty_size69 (And.intro Try.ty_agg69 Try.ty_zero69)))) (And.intro (And.intro (And.intro Try.ty_size70 Try.ty_bytes70) (And.intro Try.ty_agg70 (And.intro Try.ty_zero70 Try.ty_sl70))) (And.intro (And.intro Try.ty_b70 Try.ty_map70) (And.intro Try.ty_u70 (And.intro Try.ty_size71 Try.ty_agg71)))))) (And.intro (And.intro (And.intro (And.intro (And.intro Try.ty_zero71 Try.ty_size72) (And.intro Try.ty_agg72 Try.ty_zero72)) (And.intro (And.intro Try.ty_size73 Try.ty_agg73) (And.intro Try.ty_zero73 (And.intro Try.ty_size74 Try.ty_agg74)))) (And.intro (And.intro (And.intro Try.ty_zero74 Try.ty_size75) (And.intro Try.ty_agg75 (And.intro Try.ty_zero75 Try.ty_size76))) (And.intro (And.intro Try.ty_agg76 Try.ty_zero76) (And.intro Try.ty_size77 (And.intro Try.ty_agg77 Try.ty_zero77))))) (And.intro (And.intro (And.intro (And.intro Try.ty_size79 Try.ty_agg79) (And.intro Try.ty_zero79 (And.intro Try.ty_size80 Try.ty_agg80))) (And.intro (And.intro Try.ty_zero80 Try.ty_size81) (And.intro Try.ty_bytes81 (And.intro Try.ty_agg81 Try.ty_zero81)))) (And.intro (And.intro (And.intro Try.ty_sl81 Try.ty_b81) (And.intro Try.ty_fa81_0 (And.intro Try.ty_ff81_0 Try.ty_fa81_1))) (And.intro (And.intro Try.ty_ff81_1 Try.ty_fa81_2) (And.intro Try.ty_ff81_2 (And.intro Try.ty_fa81_3 Try.ty_ff81_3)))))))) (And.intro (And.intro (And.intro (And.intro (And.intro (And.intro (And.intro Try.ty_bu81 Try.ty_size82) (And.intro Try.ty_bytes82 Try.ty_agg82)) (And.intro (And.intro Try.ty_zero82 Try.ty_sl82) (And.intro Try.ty_b82 (And.intro Try.ty_fa82_0 Try.ty_ff82_0)))) (And.intro (And.intro (And.intro Try.ty_fa82_1 Try.ty_ff82_1) (And.intro Try.ty_fa82_2 (And.intro Try.ty_ff82_2 Try.ty_fa82_3))) (And.intro (And.intro Try.ty_ff82_3 Try.ty_bu82) (And.intro Try.ty_size83 (And.intro Try.ty_bytes83 Try.ty_agg83))))) (And.intro (And.intro (And.intro (And.intro Try.ty_zero83 Try.ty_sl83) (And.intro Try.ty_b83 Try.ty_u83)) (And.intro (And.intro Try.ty_bu83 Try.ty_size84) (And.intro Try.ty_bytes84 (And.intro Try.ty_agg84 Try.ty_zero84)))) (And.intro (And.intro (And.intro Try.ty_sl84 Try.ty_b84) (And.intro Try.ty_fa84_0 (And.intro Try.ty_ff84_0 Try.ty_bu84))) (And.intro (And.intro Try.ty_size85 Try.ty_bytes85) (And.intro Try.ty_agg85 (And.intro Try.ty_zero85 Try.ty_sl85)))))) (And.intro (And.intro (And.intro (And.intro (And.intro Try.ty_b85 Try.ty_fa85_0) (And.intro Try.ty_ff85_0 Try.ty_bu85)) (And.intro (And.intro Try.ty_size86 Try.ty_agg86) (And.intro Try.ty_zero86 (And.intro Try.ty_size87 Try.ty_bytes87)))) (And.intro (And.intro (And.intro Try.ty_agg87 Try.ty_zero87) (And.intro Try.ty_sl87 (And.intro Try.ty_b87 Try.ty_u87))) (And.intro (And.intro Try.ty_size88 Try.ty_bytes88) (And.intro Try.ty_agg88 (And.intro Try.ty_zero88 Try.ty_sl88))))) (And.intro (And.intro (And.intro (And.intro Try.ty_b88 Try.ty_u88) (And.intro Try.ty_size89 Try.ty_bytes89)) (And.intro (And.intro Try.ty_agg89 Try.ty_zero89) (And.intro Try.ty_sl89 (And.intro Try.ty_b89 Try.ty_u89)))) (And.intro (And.intro (And.intro Try.ty_size90 Try.ty_agg90) (And.intro Try.ty_zero90 (And.intro Try.ty_size91 Try.ty_bytes91))) (And.intro (And.intro Try.ty_agg91 Try.ty_zero91) (And.intro Try.ty_sl91 (And.intro Try.ty_b91 Try.ty_size92))))))) (And.intro (And.intro (And.intro (And.intro (And.intro (And.intro Try.ty_bytes92 Try.ty_agg92) (And.intro Try.ty_zero92 Try.ty_sl92)) (And.intro (And.intro Try.ty_b92 Try.ty_u92) (And.intro Try.ty_size93 (And.intro Try.ty_bytes93 Try.ty_agg93)))) (And.intro (And.intro (And.intro Try.ty_zero93 Try.ty_sl93) (And.intro Try.ty_b93 (And.intro Try.ty_u93 Try.ty_size94))) (And.intro (And.intro Try.ty_bytes94 Try.ty_agg94) (And.intro Try.ty_zero94 (And.intro Try.ty_sl94 Try.ty_b94))))) (And.intro (And.intro (And.intro (And.intro Try.ty_fa94_0 Try.ty_ff94_0) (And.intro Try.ty_fa94_1 Try.ty_ff94_1)) (And.intro (And.intro Try.ty_fa94_2 Try.ty_ff94_2) (And.intro Try.ty_fa94_3 (And.intro Try.ty_ff94_3 Try.ty_fa94_4)))) (And.intro (And.intro (And.intro Try.ty_ff94_4 Try.ty_fa94_5) (And.intro Try.ty_ff94_5 (And.intro Try.ty_fa94_6 Try.ty_ff94_6))) (And.intro (And.intro Try.ty_fa94_7 Try.ty_ff94_7) (And.intro Try.ty_fa94_8 (And.intro Try.ty_ff94_8 Try.ty_fa94_9)))))) (And.intro (And.intro (And.intro (And.intro (And.intro Try.ty_ff94_9 Try.ty_fa94_10) (And.intro Try.ty_ff94_10 Try.ty_bu94)) (And.intro (And.intro Try.ty_size95 Try.ty_bytes95) (And.intro Try.ty_agg95 (And.intro Try.ty_zero95 Try.ty_sl95)))) (And.intro (And.intro (And.intro Try.ty_b95 Try.ty_fa95_0) (And.intro Try.ty_ff95_0 (And.intro Try.ty_fa95_1 Try.ty_ff95_1))) (And.intro (And.intro Try.ty_fa95_2 Try.ty_ff95_2) (And.intro Try.ty_fa95_3 (And.intro Try.ty_ff95_3 Try.ty_fa95_4))))) (And.intro (And.intro (And.intro (And.intro Try.ty_ff95_4 Try.ty_fa95_5) (And.intro Try.ty_ff95_5 (And.intro Try.ty_fa95_6 Try.ty_ff95_6))) (And.intro (And.intro Try.ty_fa95_7 Try.ty_ff95_7) (And.intro Try.ty_fa95_8 (And.intro Try.ty_ff95_8 Try.ty_fa95_9)))) (And.intro (And.intro (And.intro Try.ty_ff95_9 Try.ty_fa95_10) (And.intro Try.ty_ff95_10 (And.intro Try.ty_bu95 Try.ty_size96))) (And.intro (And.intro Try.ty_bytes96 Try.ty_agg96) (And.intro Try.ty_zero96 (And.intro Try.ty_sl96 Try.ty_b96))))))))))
end Go.Proofs.Ytgenkkejlggmnaa
