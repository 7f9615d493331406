/-
  FACTS ON THE TYPES OF THIS SEAT's TRANSLATION, laid by program (gen_types.py).
-/
import Derived.Test.YthlhepgajgmhgaaDoorRows
import Derived.Test.YthlhepgajgmhgaaDoorAB
set_option linter.unusedVariables false
set_option maxRecDepth 100000
namespace Go.Proofs.YthlhepgajgmhgaaDoor
open Go.AM
theorem Tryd.ty_size1 : tsize Tryd.prog 1 = some 1 := by kernel_rfl
theorem Tryd.ty_agg1 : tagg Tryd.prog 1 = some false := by kernel_rfl
theorem Tryd.ty_zero1 : tzero Tryd.prog 1 = some .nilfn := by kernel_rfl
theorem Tryd.ty_size2 : tsize Tryd.prog 2 = some 1 := by kernel_rfl
theorem Tryd.ty_bytes2 : tbytes Tryd.prog 2 = some 8 := by kernel_rfl
theorem Tryd.ty_agg2 : tagg Tryd.prog 2 = some false := by kernel_rfl
theorem Tryd.ty_zero2 : tzero Tryd.prog 2 = some (.int .i64 0) := by kernel_rfl
theorem Tryd.ty_sl2 : isSlice Tryd.prog 2 = false := by kernel_rfl
theorem Tryd.ty_b2 : isBool Tryd.prog 2 = false := by kernel_rfl
theorem Tryd.ty_u2 : Tryd.prog.underlying 2 = some (.int .i64) := by kernel_rfl
theorem Tryd.ty_size3 : tsize Tryd.prog 3 = some 1 := by kernel_rfl
theorem Tryd.ty_bytes3 : tbytes Tryd.prog 3 = some 8 := by kernel_rfl
theorem Tryd.ty_agg3 : tagg Tryd.prog 3 = some false := by kernel_rfl
theorem Tryd.ty_zero3 : tzero Tryd.prog 3 = some (.int .i64 0) := by kernel_rfl
theorem Tryd.ty_sl3 : isSlice Tryd.prog 3 = false := by kernel_rfl
theorem Tryd.ty_b3 : isBool Tryd.prog 3 = false := by kernel_rfl
theorem Tryd.ty_u3 : Tryd.prog.underlying 3 = some (.int .i64) := by kernel_rfl
theorem Tryd.ty_size4 : tsize Tryd.prog 4 = some 1 := by kernel_rfl
theorem Tryd.ty_bytes4 : tbytes Tryd.prog 4 = some 1 := by kernel_rfl
theorem Tryd.ty_agg4 : tagg Tryd.prog 4 = some false := by kernel_rfl
theorem Tryd.ty_zero4 : tzero Tryd.prog 4 = some (.bool false) := by kernel_rfl
theorem Tryd.ty_sl4 : isSlice Tryd.prog 4 = false := by kernel_rfl
theorem Tryd.ty_b4 : isBool Tryd.prog 4 = true := by kernel_rfl
theorem Tryd.ty_size5 : tsize Tryd.prog 5 = some 1 := by kernel_rfl
theorem Tryd.ty_bytes5 : tbytes Tryd.prog 5 = some 1 := by kernel_rfl
theorem Tryd.ty_agg5 : tagg Tryd.prog 5 = some false := by kernel_rfl
theorem Tryd.ty_zero5 : tzero Tryd.prog 5 = some (.int .u8 0) := by kernel_rfl
theorem Tryd.ty_sl5 : isSlice Tryd.prog 5 = false := by kernel_rfl
theorem Tryd.ty_b5 : isBool Tryd.prog 5 = false := by kernel_rfl
theorem Tryd.ty_u5 : Tryd.prog.underlying 5 = some (.int .u8) := by kernel_rfl
theorem Tryd.ty_size6 : tsize Tryd.prog 6 = some 1 := by kernel_rfl
theorem Tryd.ty_bytes6 : tbytes Tryd.prog 6 = some 1 := by kernel_rfl
theorem Tryd.ty_agg6 : tagg Tryd.prog 6 = some false := by kernel_rfl
theorem Tryd.ty_zero6 : tzero Tryd.prog 6 = some (.int .u8 0) := by kernel_rfl
theorem Tryd.ty_sl6 : isSlice Tryd.prog 6 = false := by kernel_rfl
theorem Tryd.ty_b6 : isBool Tryd.prog 6 = false := by kernel_rfl
theorem Tryd.ty_u6 : Tryd.prog.underlying 6 = some (.int .u8) := by kernel_rfl
theorem Tryd.ty_size7 : tsize Tryd.prog 7 = some 4 := by kernel_rfl
theorem Tryd.ty_bytes7 : tbytes Tryd.prog 7 = some 24 := by kernel_rfl
theorem Tryd.ty_agg7 : tagg Tryd.prog 7 = some true := by kernel_rfl
theorem Tryd.ty_zero7 : tzero Tryd.prog 7 = some (.agg [.int .i64 0, .int .i64 0, .bool false, .int .u8 0]) := by kernel_rfl
theorem Tryd.ty_sl7 : isSlice Tryd.prog 7 = false := by kernel_rfl
theorem Tryd.ty_b7 : isBool Tryd.prog 7 = false := by kernel_rfl
theorem Tryd.ty_f7_0 : (fieldOf Tryd.prog 7 0).map (fun d => (d.type, d.offset)) = some (2, 0) := by kernel_rfl
theorem Tryd.ty_fo7_0 : ∃ d, fieldOf Tryd.prog 7 0 = some d ∧ d.type = 2 ∧ d.offset = 0 := fieldOf_some Tryd.ty_f7_0
theorem Tryd.ty_fa7_0 (x : AV) (rows : Nat → ARow) : aFieldAddr Tryd.prog 7 x 0 rows = fieldAddrA Tryd.prog 2 0 x rows := aFieldAddr_of Tryd.ty_fo7_0 x rows
theorem Tryd.ty_ff7_0 (x : AV) : aField Tryd.prog 7 x 0 = fieldA Tryd.prog 2 0 x := aField_of Tryd.ty_fo7_0 x
theorem Tryd.ty_f7_1 : (fieldOf Tryd.prog 7 1).map (fun d => (d.type, d.offset)) = some (3, 1) := by kernel_rfl
theorem Tryd.ty_fo7_1 : ∃ d, fieldOf Tryd.prog 7 1 = some d ∧ d.type = 3 ∧ d.offset = 1 := fieldOf_some Tryd.ty_f7_1
theorem Tryd.ty_fa7_1 (x : AV) (rows : Nat → ARow) : aFieldAddr Tryd.prog 7 x 1 rows = fieldAddrA Tryd.prog 3 1 x rows := aFieldAddr_of Tryd.ty_fo7_1 x rows
theorem Tryd.ty_ff7_1 (x : AV) : aField Tryd.prog 7 x 1 = fieldA Tryd.prog 3 1 x := aField_of Tryd.ty_fo7_1 x
theorem Tryd.ty_f7_2 : (fieldOf Tryd.prog 7 2).map (fun d => (d.type, d.offset)) = some (4, 2) := by kernel_rfl
theorem Tryd.ty_fo7_2 : ∃ d, fieldOf Tryd.prog 7 2 = some d ∧ d.type = 4 ∧ d.offset = 2 := fieldOf_some Tryd.ty_f7_2
theorem Tryd.ty_fa7_2 (x : AV) (rows : Nat → ARow) : aFieldAddr Tryd.prog 7 x 2 rows = fieldAddrA Tryd.prog 4 2 x rows := aFieldAddr_of Tryd.ty_fo7_2 x rows
theorem Tryd.ty_ff7_2 (x : AV) : aField Tryd.prog 7 x 2 = fieldA Tryd.prog 4 2 x := aField_of Tryd.ty_fo7_2 x
theorem Tryd.ty_f7_3 : (fieldOf Tryd.prog 7 3).map (fun d => (d.type, d.offset)) = some (6, 3) := by kernel_rfl
theorem Tryd.ty_fo7_3 : ∃ d, fieldOf Tryd.prog 7 3 = some d ∧ d.type = 6 ∧ d.offset = 3 := fieldOf_some Tryd.ty_f7_3
theorem Tryd.ty_fa7_3 (x : AV) (rows : Nat → ARow) : aFieldAddr Tryd.prog 7 x 3 rows = fieldAddrA Tryd.prog 6 3 x rows := aFieldAddr_of Tryd.ty_fo7_3 x rows
theorem Tryd.ty_ff7_3 (x : AV) : aField Tryd.prog 7 x 3 = fieldA Tryd.prog 6 3 x := aField_of Tryd.ty_fo7_3 x
theorem Tryd.ty_bu7 (parts : List (Nat × AV)) : aBuild Tryd.prog 7 parts = (fillA (fun i => ([(0, 1), (1, 1), (2, 1), (3, 1)] : List (Nat × Nat))[i]?) [.int .i64 0, .int .i64 0, .bool false, .int .u8 0] parts).map .agg := aBuild_struct (by kernel_rfl) (by kernel_rfl)
theorem Tryd.ty_size8 : tsize Tryd.prog 8 = some 4 := by kernel_rfl
theorem Tryd.ty_bytes8 : tbytes Tryd.prog 8 = some 24 := by kernel_rfl
theorem Tryd.ty_agg8 : tagg Tryd.prog 8 = some true := by kernel_rfl
theorem Tryd.ty_zero8 : tzero Tryd.prog 8 = some (.agg [.int .i64 0, .int .i64 0, .bool false, .int .u8 0]) := by kernel_rfl
theorem Tryd.ty_sl8 : isSlice Tryd.prog 8 = false := by kernel_rfl
theorem Tryd.ty_b8 : isBool Tryd.prog 8 = false := by kernel_rfl
theorem Tryd.ty_f8_0 : (fieldOf Tryd.prog 8 0).map (fun d => (d.type, d.offset)) = some (2, 0) := by kernel_rfl
theorem Tryd.ty_fo8_0 : ∃ d, fieldOf Tryd.prog 8 0 = some d ∧ d.type = 2 ∧ d.offset = 0 := fieldOf_some Tryd.ty_f8_0
theorem Tryd.ty_fa8_0 (x : AV) (rows : Nat → ARow) : aFieldAddr Tryd.prog 8 x 0 rows = fieldAddrA Tryd.prog 2 0 x rows := aFieldAddr_of Tryd.ty_fo8_0 x rows
theorem Tryd.ty_ff8_0 (x : AV) : aField Tryd.prog 8 x 0 = fieldA Tryd.prog 2 0 x := aField_of Tryd.ty_fo8_0 x
theorem Tryd.ty_f8_1 : (fieldOf Tryd.prog 8 1).map (fun d => (d.type, d.offset)) = some (3, 1) := by kernel_rfl
theorem Tryd.ty_fo8_1 : ∃ d, fieldOf Tryd.prog 8 1 = some d ∧ d.type = 3 ∧ d.offset = 1 := fieldOf_some Tryd.ty_f8_1
theorem Tryd.ty_fa8_1 (x : AV) (rows : Nat → ARow) : aFieldAddr Tryd.prog 8 x 1 rows = fieldAddrA Tryd.prog 3 1 x rows := aFieldAddr_of Tryd.ty_fo8_1 x rows
theorem Tryd.ty_ff8_1 (x : AV) : aField Tryd.prog 8 x 1 = fieldA Tryd.prog 3 1 x := aField_of Tryd.ty_fo8_1 x
theorem Tryd.ty_f8_2 : (fieldOf Tryd.prog 8 2).map (fun d => (d.type, d.offset)) = some (4, 2) := by kernel_rfl
theorem Tryd.ty_fo8_2 : ∃ d, fieldOf Tryd.prog 8 2 = some d ∧ d.type = 4 ∧ d.offset = 2 := fieldOf_some Tryd.ty_f8_2
theorem Tryd.ty_fa8_2 (x : AV) (rows : Nat → ARow) : aFieldAddr Tryd.prog 8 x 2 rows = fieldAddrA Tryd.prog 4 2 x rows := aFieldAddr_of Tryd.ty_fo8_2 x rows
theorem Tryd.ty_ff8_2 (x : AV) : aField Tryd.prog 8 x 2 = fieldA Tryd.prog 4 2 x := aField_of Tryd.ty_fo8_2 x
theorem Tryd.ty_f8_3 : (fieldOf Tryd.prog 8 3).map (fun d => (d.type, d.offset)) = some (6, 3) := by kernel_rfl
theorem Tryd.ty_fo8_3 : ∃ d, fieldOf Tryd.prog 8 3 = some d ∧ d.type = 6 ∧ d.offset = 3 := fieldOf_some Tryd.ty_f8_3
theorem Tryd.ty_fa8_3 (x : AV) (rows : Nat → ARow) : aFieldAddr Tryd.prog 8 x 3 rows = fieldAddrA Tryd.prog 6 3 x rows := aFieldAddr_of Tryd.ty_fo8_3 x rows
theorem Tryd.ty_ff8_3 (x : AV) : aField Tryd.prog 8 x 3 = fieldA Tryd.prog 6 3 x := aField_of Tryd.ty_fo8_3 x
theorem Tryd.ty_bu8 (parts : List (Nat × AV)) : aBuild Tryd.prog 8 parts = (fillA (fun i => ([(0, 1), (1, 1), (2, 1), (3, 1)] : List (Nat × Nat))[i]?) [.int .i64 0, .int .i64 0, .bool false, .int .u8 0] parts).map .agg := aBuild_struct (by kernel_rfl) (by kernel_rfl)
theorem Tryd.ty_size9 : tsize Tryd.prog 9 = some 1 := by kernel_rfl
theorem Tryd.ty_bytes9 : tbytes Tryd.prog 9 = some 16 := by kernel_rfl
theorem Tryd.ty_agg9 : tagg Tryd.prog 9 = some false := by kernel_rfl
theorem Tryd.ty_zero9 : tzero Tryd.prog 9 = some (.str ByteArray.empty) := by kernel_rfl
theorem Tryd.ty_sl9 : isSlice Tryd.prog 9 = false := by kernel_rfl
theorem Tryd.ty_ni9 : notInt Tryd.prog 9 = true := by kernel_rfl
theorem Tryd.ty_b9 : isBool Tryd.prog 9 = false := by kernel_rfl
theorem Tryd.ty_u9 : Tryd.prog.underlying 9 = some (.string) := by kernel_rfl
theorem Tryd.ty_size10 : tsize Tryd.prog 10 = some 1 := by kernel_rfl
theorem Tryd.ty_bytes10 : tbytes Tryd.prog 10 = some 16 := by kernel_rfl
theorem Tryd.ty_agg10 : tagg Tryd.prog 10 = some false := by kernel_rfl
theorem Tryd.ty_zero10 : tzero Tryd.prog 10 = some (.str ByteArray.empty) := by kernel_rfl
theorem Tryd.ty_sl10 : isSlice Tryd.prog 10 = false := by kernel_rfl
theorem Tryd.ty_ni10 : notInt Tryd.prog 10 = true := by kernel_rfl
theorem Tryd.ty_b10 : isBool Tryd.prog 10 = false := by kernel_rfl
theorem Tryd.ty_u10 : Tryd.prog.underlying 10 = some (.string) := by kernel_rfl
theorem Tryd.ty_size11 : tsize Tryd.prog 11 = some 1 := by kernel_rfl
theorem Tryd.ty_bytes11 : tbytes Tryd.prog 11 = some 16 := by kernel_rfl
theorem Tryd.ty_agg11 : tagg Tryd.prog 11 = some false := by kernel_rfl
theorem Tryd.ty_zero11 : tzero Tryd.prog 11 = some (.str ByteArray.empty) := by kernel_rfl
theorem Tryd.ty_sl11 : isSlice Tryd.prog 11 = false := by kernel_rfl
theorem Tryd.ty_ni11 : notInt Tryd.prog 11 = true := by kernel_rfl
theorem Tryd.ty_b11 : isBool Tryd.prog 11 = false := by kernel_rfl
theorem Tryd.ty_u11 : Tryd.prog.underlying 11 = some (.string) := by kernel_rfl
theorem Tryd.ty_size12 : tsize Tryd.prog 12 = some 1 := by kernel_rfl
theorem Tryd.ty_bytes12 : tbytes Tryd.prog 12 = some 8 := by kernel_rfl
theorem Tryd.ty_agg12 : tagg Tryd.prog 12 = some false := by kernel_rfl
theorem Tryd.ty_zero12 : tzero Tryd.prog 12 = some (.int .u64 0) := by kernel_rfl
theorem Tryd.ty_sl12 : isSlice Tryd.prog 12 = false := by kernel_rfl
theorem Tryd.ty_b12 : isBool Tryd.prog 12 = false := by kernel_rfl
theorem Tryd.ty_u12 : Tryd.prog.underlying 12 = some (.int .u64) := by kernel_rfl
theorem Tryd.ty_size13 : tsize Tryd.prog 13 = some 2 := by kernel_rfl
theorem Tryd.ty_bytes13 : tbytes Tryd.prog 13 = some 24 := by kernel_rfl
theorem Tryd.ty_agg13 : tagg Tryd.prog 13 = some true := by kernel_rfl
theorem Tryd.ty_zero13 : tzero Tryd.prog 13 = some (.agg [.str ByteArray.empty, .int .u64 0]) := by kernel_rfl
theorem Tryd.ty_sl13 : isSlice Tryd.prog 13 = false := by kernel_rfl
theorem Tryd.ty_b13 : isBool Tryd.prog 13 = false := by kernel_rfl
theorem Tryd.ty_f13_0 : (fieldOf Tryd.prog 13 0).map (fun d => (d.type, d.offset)) = some (9, 0) := by kernel_rfl
theorem Tryd.ty_fo13_0 : ∃ d, fieldOf Tryd.prog 13 0 = some d ∧ d.type = 9 ∧ d.offset = 0 := fieldOf_some Tryd.ty_f13_0
theorem Tryd.ty_fa13_0 (x : AV) (rows : Nat → ARow) : aFieldAddr Tryd.prog 13 x 0 rows = fieldAddrA Tryd.prog 9 0 x rows := aFieldAddr_of Tryd.ty_fo13_0 x rows
theorem Tryd.ty_ff13_0 (x : AV) : aField Tryd.prog 13 x 0 = fieldA Tryd.prog 9 0 x := aField_of Tryd.ty_fo13_0 x
theorem Tryd.ty_f13_1 : (fieldOf Tryd.prog 13 1).map (fun d => (d.type, d.offset)) = some (12, 1) := by kernel_rfl
theorem Tryd.ty_fo13_1 : ∃ d, fieldOf Tryd.prog 13 1 = some d ∧ d.type = 12 ∧ d.offset = 1 := fieldOf_some Tryd.ty_f13_1
theorem Tryd.ty_fa13_1 (x : AV) (rows : Nat → ARow) : aFieldAddr Tryd.prog 13 x 1 rows = fieldAddrA Tryd.prog 12 1 x rows := aFieldAddr_of Tryd.ty_fo13_1 x rows
theorem Tryd.ty_ff13_1 (x : AV) : aField Tryd.prog 13 x 1 = fieldA Tryd.prog 12 1 x := aField_of Tryd.ty_fo13_1 x
theorem Tryd.ty_bu13 (parts : List (Nat × AV)) : aBuild Tryd.prog 13 parts = (fillA (fun i => ([(0, 1), (1, 1)] : List (Nat × Nat))[i]?) [.str ByteArray.empty, .int .u64 0] parts).map .agg := aBuild_struct (by kernel_rfl) (by kernel_rfl)
theorem Tryd.ty_size14 : tsize Tryd.prog 14 = some 2 := by kernel_rfl
theorem Tryd.ty_bytes14 : tbytes Tryd.prog 14 = some 24 := by kernel_rfl
theorem Tryd.ty_agg14 : tagg Tryd.prog 14 = some true := by kernel_rfl
theorem Tryd.ty_zero14 : tzero Tryd.prog 14 = some (.agg [.str ByteArray.empty, .int .u64 0]) := by kernel_rfl
theorem Tryd.ty_sl14 : isSlice Tryd.prog 14 = false := by kernel_rfl
theorem Tryd.ty_b14 : isBool Tryd.prog 14 = false := by kernel_rfl
theorem Tryd.ty_f14_0 : (fieldOf Tryd.prog 14 0).map (fun d => (d.type, d.offset)) = some (9, 0) := by kernel_rfl
theorem Tryd.ty_fo14_0 : ∃ d, fieldOf Tryd.prog 14 0 = some d ∧ d.type = 9 ∧ d.offset = 0 := fieldOf_some Tryd.ty_f14_0
theorem Tryd.ty_fa14_0 (x : AV) (rows : Nat → ARow) : aFieldAddr Tryd.prog 14 x 0 rows = fieldAddrA Tryd.prog 9 0 x rows := aFieldAddr_of Tryd.ty_fo14_0 x rows
theorem Tryd.ty_ff14_0 (x : AV) : aField Tryd.prog 14 x 0 = fieldA Tryd.prog 9 0 x := aField_of Tryd.ty_fo14_0 x
theorem Tryd.ty_f14_1 : (fieldOf Tryd.prog 14 1).map (fun d => (d.type, d.offset)) = some (12, 1) := by kernel_rfl
theorem Tryd.ty_fo14_1 : ∃ d, fieldOf Tryd.prog 14 1 = some d ∧ d.type = 12 ∧ d.offset = 1 := fieldOf_some Tryd.ty_f14_1
theorem Tryd.ty_fa14_1 (x : AV) (rows : Nat → ARow) : aFieldAddr Tryd.prog 14 x 1 rows = fieldAddrA Tryd.prog 12 1 x rows := aFieldAddr_of Tryd.ty_fo14_1 x rows
theorem Tryd.ty_ff14_1 (x : AV) : aField Tryd.prog 14 x 1 = fieldA Tryd.prog 12 1 x := aField_of Tryd.ty_fo14_1 x
theorem Tryd.ty_bu14 (parts : List (Nat × AV)) : aBuild Tryd.prog 14 parts = (fillA (fun i => ([(0, 1), (1, 1)] : List (Nat × Nat))[i]?) [.str ByteArray.empty, .int .u64 0] parts).map .agg := aBuild_struct (by kernel_rfl) (by kernel_rfl)
theorem Tryd.ty_size15 : tsize Tryd.prog 15 = some 1 := by kernel_rfl
theorem Tryd.ty_bytes15 : tbytes Tryd.prog 15 = some 8 := by kernel_rfl
theorem Tryd.ty_agg15 : tagg Tryd.prog 15 = some false := by kernel_rfl
theorem Tryd.ty_zero15 : tzero Tryd.prog 15 = some (.nilptr) := by kernel_rfl
theorem Tryd.ty_sl15 : isSlice Tryd.prog 15 = false := by kernel_rfl
theorem Tryd.ty_b15 : isBool Tryd.prog 15 = false := by kernel_rfl
theorem Tryd.ty_size16 : tsize Tryd.prog 16 = some 1 := by kernel_rfl
theorem Tryd.ty_bytes16 : tbytes Tryd.prog 16 = some 8 := by kernel_rfl
theorem Tryd.ty_agg16 : tagg Tryd.prog 16 = some false := by kernel_rfl
theorem Tryd.ty_zero16 : tzero Tryd.prog 16 = some (.nilptr) := by kernel_rfl
theorem Tryd.ty_sl16 : isSlice Tryd.prog 16 = false := by kernel_rfl
theorem Tryd.ty_b16 : isBool Tryd.prog 16 = false := by kernel_rfl
theorem Tryd.ty_size17 : tsize Tryd.prog 17 = some 1 := by kernel_rfl
theorem Tryd.ty_bytes17 : tbytes Tryd.prog 17 = some 8 := by kernel_rfl
theorem Tryd.ty_agg17 : tagg Tryd.prog 17 = some false := by kernel_rfl
theorem Tryd.ty_zero17 : tzero Tryd.prog 17 = some (.nilptr) := by kernel_rfl
theorem Tryd.ty_sl17 : isSlice Tryd.prog 17 = false := by kernel_rfl
theorem Tryd.ty_b17 : isBool Tryd.prog 17 = false := by kernel_rfl
theorem Tryd.ty_size18 : tsize Tryd.prog 18 = some 1 := by kernel_rfl
theorem Tryd.ty_bytes18 : tbytes Tryd.prog 18 = some 8 := by kernel_rfl
theorem Tryd.ty_agg18 : tagg Tryd.prog 18 = some true := by kernel_rfl
theorem Tryd.ty_zero18 : tzero Tryd.prog 18 = some (.agg [.nilptr]) := by kernel_rfl
theorem Tryd.ty_sl18 : isSlice Tryd.prog 18 = false := by kernel_rfl
theorem Tryd.ty_b18 : isBool Tryd.prog 18 = false := by kernel_rfl
theorem Tryd.ty_f18_0 : (fieldOf Tryd.prog 18 0).map (fun d => (d.type, d.offset)) = some (17, 0) := by kernel_rfl
theorem Tryd.ty_fo18_0 : ∃ d, fieldOf Tryd.prog 18 0 = some d ∧ d.type = 17 ∧ d.offset = 0 := fieldOf_some Tryd.ty_f18_0
theorem Tryd.ty_fa18_0 (x : AV) (rows : Nat → ARow) : aFieldAddr Tryd.prog 18 x 0 rows = fieldAddrA Tryd.prog 17 0 x rows := aFieldAddr_of Tryd.ty_fo18_0 x rows
theorem Tryd.ty_ff18_0 (x : AV) : aField Tryd.prog 18 x 0 = fieldA Tryd.prog 17 0 x := aField_of Tryd.ty_fo18_0 x
theorem Tryd.ty_bu18 (parts : List (Nat × AV)) : aBuild Tryd.prog 18 parts = (fillA (fun i => ([(0, 1)] : List (Nat × Nat))[i]?) [.nilptr] parts).map .agg := aBuild_struct (by kernel_rfl) (by kernel_rfl)
theorem Tryd.ty_size19 : tsize Tryd.prog 19 = some 1 := by kernel_rfl
theorem Tryd.ty_bytes19 : tbytes Tryd.prog 19 = some 8 := by kernel_rfl
theorem Tryd.ty_agg19 : tagg Tryd.prog 19 = some true := by kernel_rfl
theorem Tryd.ty_zero19 : tzero Tryd.prog 19 = some (.agg [.nilptr]) := by kernel_rfl
theorem Tryd.ty_sl19 : isSlice Tryd.prog 19 = false := by kernel_rfl
theorem Tryd.ty_b19 : isBool Tryd.prog 19 = false := by kernel_rfl
theorem Tryd.ty_f19_0 : (fieldOf Tryd.prog 19 0).map (fun d => (d.type, d.offset)) = some (17, 0) := by kernel_rfl
theorem Tryd.ty_fo19_0 : ∃ d, fieldOf Tryd.prog 19 0 = some d ∧ d.type = 17 ∧ d.offset = 0 := fieldOf_some Tryd.ty_f19_0
theorem Tryd.ty_fa19_0 (x : AV) (rows : Nat → ARow) : aFieldAddr Tryd.prog 19 x 0 rows = fieldAddrA Tryd.prog 17 0 x rows := aFieldAddr_of Tryd.ty_fo19_0 x rows
theorem Tryd.ty_ff19_0 (x : AV) : aField Tryd.prog 19 x 0 = fieldA Tryd.prog 17 0 x := aField_of Tryd.ty_fo19_0 x
theorem Tryd.ty_bu19 (parts : List (Nat × AV)) : aBuild Tryd.prog 19 parts = (fillA (fun i => ([(0, 1)] : List (Nat × Nat))[i]?) [.nilptr] parts).map .agg := aBuild_struct (by kernel_rfl) (by kernel_rfl)
theorem Tryd.ty_size21 : tsize Tryd.prog 21 = some 1 := by kernel_rfl
theorem Tryd.ty_bytes21 : tbytes Tryd.prog 21 = some 4 := by kernel_rfl
theorem Tryd.ty_agg21 : tagg Tryd.prog 21 = some false := by kernel_rfl
theorem Tryd.ty_zero21 : tzero Tryd.prog 21 = some (.int .i32 0) := by kernel_rfl
theorem Tryd.ty_sl21 : isSlice Tryd.prog 21 = false := by kernel_rfl
theorem Tryd.ty_b21 : isBool Tryd.prog 21 = false := by kernel_rfl
theorem Tryd.ty_u21 : Tryd.prog.underlying 21 = some (.int .i32) := by kernel_rfl
theorem Tryd.ty_size22 : tsize Tryd.prog 22 = some 1 := by kernel_rfl
theorem Tryd.ty_bytes22 : tbytes Tryd.prog 22 = some 24 := by kernel_rfl
theorem Tryd.ty_agg22 : tagg Tryd.prog 22 = some false := by kernel_rfl
theorem Tryd.ty_zero22 : tzero Tryd.prog 22 = some (.sl true []) := by kernel_rfl
theorem Tryd.ty_elem22 : elemOf' Tryd.prog 22 = some 28 := by kernel_rfl
theorem Tryd.ty_sl22 : isSlice Tryd.prog 22 = true := by kernel_rfl
theorem Tryd.ty_ni22 : notInt Tryd.prog 22 = true := by kernel_rfl
theorem Tryd.ty_b22 : isBool Tryd.prog 22 = false := by kernel_rfl
theorem Tryd.ty_u22 : Tryd.prog.underlying 22 = some (.slice 28) := by kernel_rfl
theorem Tryd.ty_size23 : tsize Tryd.prog 23 = some 1 := by kernel_rfl
theorem Tryd.ty_agg23 : tagg Tryd.prog 23 = some false := by kernel_rfl
theorem Tryd.ty_zero23 : tzero Tryd.prog 23 = some .nilfn := by kernel_rfl
theorem Tryd.ty_size24 : tsize Tryd.prog 24 = some 1 := by kernel_rfl
theorem Tryd.ty_bytes24 : tbytes Tryd.prog 24 = some 24 := by kernel_rfl
theorem Tryd.ty_agg24 : tagg Tryd.prog 24 = some false := by kernel_rfl
theorem Tryd.ty_zero24 : tzero Tryd.prog 24 = some (.sl true []) := by kernel_rfl
theorem Tryd.ty_elem24 : elemOf' Tryd.prog 24 = some 26 := by kernel_rfl
theorem Tryd.ty_sl24 : isSlice Tryd.prog 24 = true := by kernel_rfl
theorem Tryd.ty_ni24 : notInt Tryd.prog 24 = true := by kernel_rfl
theorem Tryd.ty_b24 : isBool Tryd.prog 24 = false := by kernel_rfl
theorem Tryd.ty_u24 : Tryd.prog.underlying 24 = some (.slice 26) := by kernel_rfl
theorem Tryd.ty_size25 : tsize Tryd.prog 25 = some 4 := by kernel_rfl
theorem Tryd.ty_bytes25 : tbytes Tryd.prog 25 = some 48 := by kernel_rfl
theorem Tryd.ty_agg25 : tagg Tryd.prog 25 = some true := by kernel_rfl
theorem Tryd.ty_zero25 : tzero Tryd.prog 25 = some (.agg [.int .i64 0, .int .i64 0, .int .i64 0, .sl true []]) := by kernel_rfl
theorem Tryd.ty_sl25 : isSlice Tryd.prog 25 = false := by kernel_rfl
theorem Tryd.ty_b25 : isBool Tryd.prog 25 = false := by kernel_rfl
theorem Tryd.ty_f25_0 : (fieldOf Tryd.prog 25 0).map (fun d => (d.type, d.offset)) = some (3, 0) := by kernel_rfl
theorem Tryd.ty_fo25_0 : ∃ d, fieldOf Tryd.prog 25 0 = some d ∧ d.type = 3 ∧ d.offset = 0 := fieldOf_some Tryd.ty_f25_0
theorem Tryd.ty_fa25_0 (x : AV) (rows : Nat → ARow) : aFieldAddr Tryd.prog 25 x 0 rows = fieldAddrA Tryd.prog 3 0 x rows := aFieldAddr_of Tryd.ty_fo25_0 x rows
theorem Tryd.ty_ff25_0 (x : AV) : aField Tryd.prog 25 x 0 = fieldA Tryd.prog 3 0 x := aField_of Tryd.ty_fo25_0 x
theorem Tryd.ty_f25_1 : (fieldOf Tryd.prog 25 1).map (fun d => (d.type, d.offset)) = some (3, 1) := by kernel_rfl
theorem Tryd.ty_fo25_1 : ∃ d, fieldOf Tryd.prog 25 1 = some d ∧ d.type = 3 ∧ d.offset = 1 := fieldOf_some Tryd.ty_f25_1
theorem Tryd.ty_fa25_1 (x : AV) (rows : Nat → ARow) : aFieldAddr Tryd.prog 25 x 1 rows = fieldAddrA Tryd.prog 3 1 x rows := aFieldAddr_of Tryd.ty_fo25_1 x rows
theorem Tryd.ty_ff25_1 (x : AV) : aField Tryd.prog 25 x 1 = fieldA Tryd.prog 3 1 x := aField_of Tryd.ty_fo25_1 x
theorem Tryd.ty_f25_2 : (fieldOf Tryd.prog 25 2).map (fun d => (d.type, d.offset)) = some (3, 2) := by kernel_rfl
theorem Tryd.ty_fo25_2 : ∃ d, fieldOf Tryd.prog 25 2 = some d ∧ d.type = 3 ∧ d.offset = 2 := fieldOf_some Tryd.ty_f25_2
theorem Tryd.ty_fa25_2 (x : AV) (rows : Nat → ARow) : aFieldAddr Tryd.prog 25 x 2 rows = fieldAddrA Tryd.prog 3 2 x rows := aFieldAddr_of Tryd.ty_fo25_2 x rows
theorem Tryd.ty_ff25_2 (x : AV) : aField Tryd.prog 25 x 2 = fieldA Tryd.prog 3 2 x := aField_of Tryd.ty_fo25_2 x
theorem Tryd.ty_f25_3 : (fieldOf Tryd.prog 25 3).map (fun d => (d.type, d.offset)) = some (24, 3) := by kernel_rfl
theorem Tryd.ty_fo25_3 : ∃ d, fieldOf Tryd.prog 25 3 = some d ∧ d.type = 24 ∧ d.offset = 3 := fieldOf_some Tryd.ty_f25_3
theorem Tryd.ty_fa25_3 (x : AV) (rows : Nat → ARow) : aFieldAddr Tryd.prog 25 x 3 rows = fieldAddrA Tryd.prog 24 3 x rows := aFieldAddr_of Tryd.ty_fo25_3 x rows
theorem Tryd.ty_ff25_3 (x : AV) : aField Tryd.prog 25 x 3 = fieldA Tryd.prog 24 3 x := aField_of Tryd.ty_fo25_3 x
theorem Tryd.ty_bu25 (parts : List (Nat × AV)) : aBuild Tryd.prog 25 parts = (fillA (fun i => ([(0, 1), (1, 1), (2, 1), (3, 1)] : List (Nat × Nat))[i]?) [.int .i64 0, .int .i64 0, .int .i64 0, .sl true []] parts).map .agg := aBuild_struct (by kernel_rfl) (by kernel_rfl)
theorem Tryd.ty_size26 : tsize Tryd.prog 26 = some 4 := by kernel_rfl
theorem Tryd.ty_bytes26 : tbytes Tryd.prog 26 = some 48 := by kernel_rfl
theorem Tryd.ty_agg26 : tagg Tryd.prog 26 = some true := by kernel_rfl
theorem Tryd.ty_zero26 : tzero Tryd.prog 26 = some (.agg [.int .i64 0, .int .i64 0, .int .i64 0, .sl true []]) := by kernel_rfl
theorem Tryd.ty_sl26 : isSlice Tryd.prog 26 = false := by kernel_rfl
theorem Tryd.ty_b26 : isBool Tryd.prog 26 = false := by kernel_rfl
theorem Tryd.ty_f26_0 : (fieldOf Tryd.prog 26 0).map (fun d => (d.type, d.offset)) = some (3, 0) := by kernel_rfl
theorem Tryd.ty_fo26_0 : ∃ d, fieldOf Tryd.prog 26 0 = some d ∧ d.type = 3 ∧ d.offset = 0 := fieldOf_some Tryd.ty_f26_0
theorem Tryd.ty_fa26_0 (x : AV) (rows : Nat → ARow) : aFieldAddr Tryd.prog 26 x 0 rows = fieldAddrA Tryd.prog 3 0 x rows := aFieldAddr_of Tryd.ty_fo26_0 x rows
theorem Tryd.ty_ff26_0 (x : AV) : aField Tryd.prog 26 x 0 = fieldA Tryd.prog 3 0 x := aField_of Tryd.ty_fo26_0 x
theorem Tryd.ty_f26_1 : (fieldOf Tryd.prog 26 1).map (fun d => (d.type, d.offset)) = some (3, 1) := by kernel_rfl
theorem Tryd.ty_fo26_1 : ∃ d, fieldOf Tryd.prog 26 1 = some d ∧ d.type = 3 ∧ d.offset = 1 := fieldOf_some Tryd.ty_f26_1
theorem Tryd.ty_fa26_1 (x : AV) (rows : Nat → ARow) : aFieldAddr Tryd.prog 26 x 1 rows = fieldAddrA Tryd.prog 3 1 x rows := aFieldAddr_of Tryd.ty_fo26_1 x rows
theorem Tryd.ty_ff26_1 (x : AV) : aField Tryd.prog 26 x 1 = fieldA Tryd.prog 3 1 x := aField_of Tryd.ty_fo26_1 x
theorem Tryd.ty_f26_2 : (fieldOf Tryd.prog 26 2).map (fun d => (d.type, d.offset)) = some (3, 2) := by kernel_rfl
theorem Tryd.ty_fo26_2 : ∃ d, fieldOf Tryd.prog 26 2 = some d ∧ d.type = 3 ∧ d.offset = 2 := fieldOf_some Tryd.ty_f26_2
theorem Tryd.ty_fa26_2 (x : AV) (rows : Nat → ARow) : aFieldAddr Tryd.prog 26 x 2 rows = fieldAddrA Tryd.prog 3 2 x rows := aFieldAddr_of Tryd.ty_fo26_2 x rows
theorem Tryd.ty_ff26_2 (x : AV) : aField Tryd.prog 26 x 2 = fieldA Tryd.prog 3 2 x := aField_of Tryd.ty_fo26_2 x
theorem Tryd.ty_f26_3 : (fieldOf Tryd.prog 26 3).map (fun d => (d.type, d.offset)) = some (24, 3) := by kernel_rfl
theorem Tryd.ty_fo26_3 : ∃ d, fieldOf Tryd.prog 26 3 = some d ∧ d.type = 24 ∧ d.offset = 3 := fieldOf_some Tryd.ty_f26_3
theorem Tryd.ty_fa26_3 (x : AV) (rows : Nat → ARow) : aFieldAddr Tryd.prog 26 x 3 rows = fieldAddrA Tryd.prog 24 3 x rows := aFieldAddr_of Tryd.ty_fo26_3 x rows
theorem Tryd.ty_ff26_3 (x : AV) : aField Tryd.prog 26 x 3 = fieldA Tryd.prog 24 3 x := aField_of Tryd.ty_fo26_3 x
theorem Tryd.ty_bu26 (parts : List (Nat × AV)) : aBuild Tryd.prog 26 parts = (fillA (fun i => ([(0, 1), (1, 1), (2, 1), (3, 1)] : List (Nat × Nat))[i]?) [.int .i64 0, .int .i64 0, .int .i64 0, .sl true []] parts).map .agg := aBuild_struct (by kernel_rfl) (by kernel_rfl)
theorem Tryd.ty_size27 : tsize Tryd.prog 27 = some 10 := by kernel_rfl
theorem Tryd.ty_bytes27 : tbytes Tryd.prog 27 = some 120 := by kernel_rfl
theorem Tryd.ty_agg27 : tagg Tryd.prog 27 = some true := by kernel_rfl
theorem Tryd.ty_zero27 : tzero Tryd.prog 27 = some (.agg [.str ByteArray.empty, .int .i64 0, .int .i64 0, .int .i64 0, .sl true [], .int .i64 0, .int .i64 0, .int .i64 0, .sl true [], .int .i64 0]) := by kernel_rfl
theorem Tryd.ty_sl27 : isSlice Tryd.prog 27 = false := by kernel_rfl
theorem Tryd.ty_b27 : isBool Tryd.prog 27 = false := by kernel_rfl
theorem Tryd.ty_f27_0 : (fieldOf Tryd.prog 27 0).map (fun d => (d.type, d.offset)) = some (9, 0) := by kernel_rfl
theorem Tryd.ty_fo27_0 : ∃ d, fieldOf Tryd.prog 27 0 = some d ∧ d.type = 9 ∧ d.offset = 0 := fieldOf_some Tryd.ty_f27_0
theorem Tryd.ty_fa27_0 (x : AV) (rows : Nat → ARow) : aFieldAddr Tryd.prog 27 x 0 rows = fieldAddrA Tryd.prog 9 0 x rows := aFieldAddr_of Tryd.ty_fo27_0 x rows
theorem Tryd.ty_ff27_0 (x : AV) : aField Tryd.prog 27 x 0 = fieldA Tryd.prog 9 0 x := aField_of Tryd.ty_fo27_0 x
theorem Tryd.ty_f27_1 : (fieldOf Tryd.prog 27 1).map (fun d => (d.type, d.offset)) = some (26, 1) := by kernel_rfl
theorem Tryd.ty_fo27_1 : ∃ d, fieldOf Tryd.prog 27 1 = some d ∧ d.type = 26 ∧ d.offset = 1 := fieldOf_some Tryd.ty_f27_1
theorem Tryd.ty_fa27_1 (x : AV) (rows : Nat → ARow) : aFieldAddr Tryd.prog 27 x 1 rows = fieldAddrA Tryd.prog 26 1 x rows := aFieldAddr_of Tryd.ty_fo27_1 x rows
theorem Tryd.ty_ff27_1 (x : AV) : aField Tryd.prog 27 x 1 = fieldA Tryd.prog 26 1 x := aField_of Tryd.ty_fo27_1 x
theorem Tryd.ty_f27_2 : (fieldOf Tryd.prog 27 2).map (fun d => (d.type, d.offset)) = some (26, 5) := by kernel_rfl
theorem Tryd.ty_fo27_2 : ∃ d, fieldOf Tryd.prog 27 2 = some d ∧ d.type = 26 ∧ d.offset = 5 := fieldOf_some Tryd.ty_f27_2
theorem Tryd.ty_fa27_2 (x : AV) (rows : Nat → ARow) : aFieldAddr Tryd.prog 27 x 2 rows = fieldAddrA Tryd.prog 26 5 x rows := aFieldAddr_of Tryd.ty_fo27_2 x rows
theorem Tryd.ty_ff27_2 (x : AV) : aField Tryd.prog 27 x 2 = fieldA Tryd.prog 26 5 x := aField_of Tryd.ty_fo27_2 x
theorem Tryd.ty_f27_3 : (fieldOf Tryd.prog 27 3).map (fun d => (d.type, d.offset)) = some (3, 9) := by kernel_rfl
theorem Tryd.ty_fo27_3 : ∃ d, fieldOf Tryd.prog 27 3 = some d ∧ d.type = 3 ∧ d.offset = 9 := fieldOf_some Tryd.ty_f27_3
theorem Tryd.ty_fa27_3 (x : AV) (rows : Nat → ARow) : aFieldAddr Tryd.prog 27 x 3 rows = fieldAddrA Tryd.prog 3 9 x rows := aFieldAddr_of Tryd.ty_fo27_3 x rows
theorem Tryd.ty_ff27_3 (x : AV) : aField Tryd.prog 27 x 3 = fieldA Tryd.prog 3 9 x := aField_of Tryd.ty_fo27_3 x
theorem Tryd.ty_bu27 (parts : List (Nat × AV)) : aBuild Tryd.prog 27 parts = (fillA (fun i => ([(0, 1), (1, 4), (5, 4), (9, 1)] : List (Nat × Nat))[i]?) [.str ByteArray.empty, .int .i64 0, .int .i64 0, .int .i64 0, .sl true [], .int .i64 0, .int .i64 0, .int .i64 0, .sl true [], .int .i64 0] parts).map .agg := aBuild_struct (by kernel_rfl) (by kernel_rfl)
theorem Tryd.ty_size28 : tsize Tryd.prog 28 = some 10 := by kernel_rfl
theorem Tryd.ty_bytes28 : tbytes Tryd.prog 28 = some 120 := by kernel_rfl
theorem Tryd.ty_agg28 : tagg Tryd.prog 28 = some true := by kernel_rfl
theorem Tryd.ty_zero28 : tzero Tryd.prog 28 = some (.agg [.str ByteArray.empty, .int .i64 0, .int .i64 0, .int .i64 0, .sl true [], .int .i64 0, .int .i64 0, .int .i64 0, .sl true [], .int .i64 0]) := by kernel_rfl
theorem Tryd.ty_sl28 : isSlice Tryd.prog 28 = false := by kernel_rfl
theorem Tryd.ty_b28 : isBool Tryd.prog 28 = false := by kernel_rfl
theorem Tryd.ty_f28_0 : (fieldOf Tryd.prog 28 0).map (fun d => (d.type, d.offset)) = some (9, 0) := by kernel_rfl
theorem Tryd.ty_fo28_0 : ∃ d, fieldOf Tryd.prog 28 0 = some d ∧ d.type = 9 ∧ d.offset = 0 := fieldOf_some Tryd.ty_f28_0
theorem Tryd.ty_fa28_0 (x : AV) (rows : Nat → ARow) : aFieldAddr Tryd.prog 28 x 0 rows = fieldAddrA Tryd.prog 9 0 x rows := aFieldAddr_of Tryd.ty_fo28_0 x rows
theorem Tryd.ty_ff28_0 (x : AV) : aField Tryd.prog 28 x 0 = fieldA Tryd.prog 9 0 x := aField_of Tryd.ty_fo28_0 x
theorem Tryd.ty_f28_1 : (fieldOf Tryd.prog 28 1).map (fun d => (d.type, d.offset)) = some (26, 1) := by kernel_rfl
theorem Tryd.ty_fo28_1 : ∃ d, fieldOf Tryd.prog 28 1 = some d ∧ d.type = 26 ∧ d.offset = 1 := fieldOf_some Tryd.ty_f28_1
theorem Tryd.ty_fa28_1 (x : AV) (rows : Nat → ARow) : aFieldAddr Tryd.prog 28 x 1 rows = fieldAddrA Tryd.prog 26 1 x rows := aFieldAddr_of Tryd.ty_fo28_1 x rows
theorem Tryd.ty_ff28_1 (x : AV) : aField Tryd.prog 28 x 1 = fieldA Tryd.prog 26 1 x := aField_of Tryd.ty_fo28_1 x
theorem Tryd.ty_f28_2 : (fieldOf Tryd.prog 28 2).map (fun d => (d.type, d.offset)) = some (26, 5) := by kernel_rfl
theorem Tryd.ty_fo28_2 : ∃ d, fieldOf Tryd.prog 28 2 = some d ∧ d.type = 26 ∧ d.offset = 5 := fieldOf_some Tryd.ty_f28_2
theorem Tryd.ty_fa28_2 (x : AV) (rows : Nat → ARow) : aFieldAddr Tryd.prog 28 x 2 rows = fieldAddrA Tryd.prog 26 5 x rows := aFieldAddr_of Tryd.ty_fo28_2 x rows
theorem Tryd.ty_ff28_2 (x : AV) : aField Tryd.prog 28 x 2 = fieldA Tryd.prog 26 5 x := aField_of Tryd.ty_fo28_2 x
theorem Tryd.ty_f28_3 : (fieldOf Tryd.prog 28 3).map (fun d => (d.type, d.offset)) = some (3, 9) := by kernel_rfl
theorem Tryd.ty_fo28_3 : ∃ d, fieldOf Tryd.prog 28 3 = some d ∧ d.type = 3 ∧ d.offset = 9 := fieldOf_some Tryd.ty_f28_3
theorem Tryd.ty_fa28_3 (x : AV) (rows : Nat → ARow) : aFieldAddr Tryd.prog 28 x 3 rows = fieldAddrA Tryd.prog 3 9 x rows := aFieldAddr_of Tryd.ty_fo28_3 x rows
theorem Tryd.ty_ff28_3 (x : AV) : aField Tryd.prog 28 x 3 = fieldA Tryd.prog 3 9 x := aField_of Tryd.ty_fo28_3 x
theorem Tryd.ty_bu28 (parts : List (Nat × AV)) : aBuild Tryd.prog 28 parts = (fillA (fun i => ([(0, 1), (1, 4), (5, 4), (9, 1)] : List (Nat × Nat))[i]?) [.str ByteArray.empty, .int .i64 0, .int .i64 0, .int .i64 0, .sl true [], .int .i64 0, .int .i64 0, .int .i64 0, .sl true [], .int .i64 0] parts).map .agg := aBuild_struct (by kernel_rfl) (by kernel_rfl)
theorem Tryd.ty_size29 : tsize Tryd.prog 29 = some 1 := by kernel_rfl
theorem Tryd.ty_agg29 : tagg Tryd.prog 29 = some false := by kernel_rfl
theorem Tryd.ty_zero29 : tzero Tryd.prog 29 = some .nilfn := by kernel_rfl
theorem Tryd.ty_size30 : tsize Tryd.prog 30 = some 1 := by kernel_rfl
theorem Tryd.ty_agg30 : tagg Tryd.prog 30 = some false := by kernel_rfl
theorem Tryd.ty_zero30 : tzero Tryd.prog 30 = some .nilfn := by kernel_rfl
theorem Tryd.ty_size31 : tsize Tryd.prog 31 = some 1 := by kernel_rfl
theorem Tryd.ty_agg31 : tagg Tryd.prog 31 = some false := by kernel_rfl
theorem Tryd.ty_zero31 : tzero Tryd.prog 31 = some .nilfn := by kernel_rfl
theorem Tryd.ty_size32 : tsize Tryd.prog 32 = some 1 := by kernel_rfl
theorem Tryd.ty_agg32 : tagg Tryd.prog 32 = some false := by kernel_rfl
theorem Tryd.ty_zero32 : tzero Tryd.prog 32 = some .nilfn := by kernel_rfl
theorem Tryd.ty_size33 : tsize Tryd.prog 33 = some 1 := by kernel_rfl
theorem Tryd.ty_agg33 : tagg Tryd.prog 33 = some false := by kernel_rfl
theorem Tryd.ty_zero33 : tzero Tryd.prog 33 = some .nilfn := by kernel_rfl
theorem Tryd.ty_size34 : tsize Tryd.prog 34 = some 1 := by kernel_rfl
theorem Tryd.ty_agg34 : tagg Tryd.prog 34 = some false := by kernel_rfl
theorem Tryd.ty_zero34 : tzero Tryd.prog 34 = some .nilfn := by kernel_rfl
theorem Tryd.ty_size35 : tsize Tryd.prog 35 = some 5 := by kernel_rfl
theorem Tryd.ty_bytes35 : tbytes Tryd.prog 35 = some 48 := by kernel_rfl
theorem Tryd.ty_agg35 : tagg Tryd.prog 35 = some true := by kernel_rfl
theorem Tryd.ty_zero35 : tzero Tryd.prog 35 = some (.agg [.str ByteArray.empty, .int .i64 0, .int .i64 0, .int .i64 0, .int .i64 0]) := by kernel_rfl
theorem Tryd.ty_sl35 : isSlice Tryd.prog 35 = false := by kernel_rfl
theorem Tryd.ty_b35 : isBool Tryd.prog 35 = false := by kernel_rfl
theorem Tryd.ty_f35_0 : (fieldOf Tryd.prog 35 0).map (fun d => (d.type, d.offset)) = some (9, 0) := by kernel_rfl
theorem Tryd.ty_fo35_0 : ∃ d, fieldOf Tryd.prog 35 0 = some d ∧ d.type = 9 ∧ d.offset = 0 := fieldOf_some Tryd.ty_f35_0
theorem Tryd.ty_fa35_0 (x : AV) (rows : Nat → ARow) : aFieldAddr Tryd.prog 35 x 0 rows = fieldAddrA Tryd.prog 9 0 x rows := aFieldAddr_of Tryd.ty_fo35_0 x rows
theorem Tryd.ty_ff35_0 (x : AV) : aField Tryd.prog 35 x 0 = fieldA Tryd.prog 9 0 x := aField_of Tryd.ty_fo35_0 x
theorem Tryd.ty_f35_1 : (fieldOf Tryd.prog 35 1).map (fun d => (d.type, d.offset)) = some (3, 1) := by kernel_rfl
theorem Tryd.ty_fo35_1 : ∃ d, fieldOf Tryd.prog 35 1 = some d ∧ d.type = 3 ∧ d.offset = 1 := fieldOf_some Tryd.ty_f35_1
theorem Tryd.ty_fa35_1 (x : AV) (rows : Nat → ARow) : aFieldAddr Tryd.prog 35 x 1 rows = fieldAddrA Tryd.prog 3 1 x rows := aFieldAddr_of Tryd.ty_fo35_1 x rows
theorem Tryd.ty_ff35_1 (x : AV) : aField Tryd.prog 35 x 1 = fieldA Tryd.prog 3 1 x := aField_of Tryd.ty_fo35_1 x
theorem Tryd.ty_f35_2 : (fieldOf Tryd.prog 35 2).map (fun d => (d.type, d.offset)) = some (3, 2) := by kernel_rfl
theorem Tryd.ty_fo35_2 : ∃ d, fieldOf Tryd.prog 35 2 = some d ∧ d.type = 3 ∧ d.offset = 2 := fieldOf_some Tryd.ty_f35_2
theorem Tryd.ty_fa35_2 (x : AV) (rows : Nat → ARow) : aFieldAddr Tryd.prog 35 x 2 rows = fieldAddrA Tryd.prog 3 2 x rows := aFieldAddr_of Tryd.ty_fo35_2 x rows
theorem Tryd.ty_ff35_2 (x : AV) : aField Tryd.prog 35 x 2 = fieldA Tryd.prog 3 2 x := aField_of Tryd.ty_fo35_2 x
theorem Tryd.ty_f35_3 : (fieldOf Tryd.prog 35 3).map (fun d => (d.type, d.offset)) = some (3, 3) := by kernel_rfl
theorem Tryd.ty_fo35_3 : ∃ d, fieldOf Tryd.prog 35 3 = some d ∧ d.type = 3 ∧ d.offset = 3 := fieldOf_some Tryd.ty_f35_3
theorem Tryd.ty_fa35_3 (x : AV) (rows : Nat → ARow) : aFieldAddr Tryd.prog 35 x 3 rows = fieldAddrA Tryd.prog 3 3 x rows := aFieldAddr_of Tryd.ty_fo35_3 x rows
theorem Tryd.ty_ff35_3 (x : AV) : aField Tryd.prog 35 x 3 = fieldA Tryd.prog 3 3 x := aField_of Tryd.ty_fo35_3 x
theorem Tryd.ty_f35_4 : (fieldOf Tryd.prog 35 4).map (fun d => (d.type, d.offset)) = some (3, 4) := by kernel_rfl
theorem Tryd.ty_fo35_4 : ∃ d, fieldOf Tryd.prog 35 4 = some d ∧ d.type = 3 ∧ d.offset = 4 := fieldOf_some Tryd.ty_f35_4
theorem Tryd.ty_fa35_4 (x : AV) (rows : Nat → ARow) : aFieldAddr Tryd.prog 35 x 4 rows = fieldAddrA Tryd.prog 3 4 x rows := aFieldAddr_of Tryd.ty_fo35_4 x rows
theorem Tryd.ty_ff35_4 (x : AV) : aField Tryd.prog 35 x 4 = fieldA Tryd.prog 3 4 x := aField_of Tryd.ty_fo35_4 x
theorem Tryd.ty_bu35 (parts : List (Nat × AV)) : aBuild Tryd.prog 35 parts = (fillA (fun i => ([(0, 1), (1, 1), (2, 1), (3, 1), (4, 1)] : List (Nat × Nat))[i]?) [.str ByteArray.empty, .int .i64 0, .int .i64 0, .int .i64 0, .int .i64 0] parts).map .agg := aBuild_struct (by kernel_rfl) (by kernel_rfl)
theorem Tryd.ty_size36 : tsize Tryd.prog 36 = some 60 := by kernel_rfl
theorem Tryd.ty_bytes36 : tbytes Tryd.prog 36 = some 576 := by kernel_rfl
theorem Tryd.ty_agg36 : tagg Tryd.prog 36 = some true := by kernel_rfl
theorem Tryd.ty_zero36 : tzero Tryd.prog 36 = some (.agg [.str ByteArray.empty, .int .i64 0, .int .i64 0, .int .i64 0, .int .i64 0, .str ByteArray.empty, .int .i64 0, .int .i64 0, .int .i64 0, .int .i64 0, .str ByteArray.empty, .int .i64 0, .int .i64 0, .int .i64 0, .int .i64 0, .str ByteArray.empty, .int .i64 0, .int .i64 0, .int .i64 0, .int .i64 0, .str ByteArray.empty, .int .i64 0, .int .i64 0, .int .i64 0, .int .i64 0, .str ByteArray.empty, .int .i64 0, .int .i64 0, .int .i64 0, .int .i64 0, .str ByteArray.empty, .int .i64 0, .int .i64 0, .int .i64 0, .int .i64 0, .str ByteArray.empty, .int .i64 0, .int .i64 0, .int .i64 0, .int .i64 0, .str ByteArray.empty, .int .i64 0, .int .i64 0, .int .i64 0, .int .i64 0, .str ByteArray.empty, .int .i64 0, .int .i64 0, .int .i64 0, .int .i64 0, .str ByteArray.empty, .int .i64 0, .int .i64 0, .int .i64 0, .int .i64 0, .str ByteArray.empty, .int .i64 0, .int .i64 0, .int .i64 0, .int .i64 0]) := by kernel_rfl
theorem Tryd.ty_sl36 : isSlice Tryd.prog 36 = false := by kernel_rfl
theorem Tryd.ty_b36 : isBool Tryd.prog 36 = false := by kernel_rfl
theorem Tryd.ty_u36 : Tryd.prog.underlying 36 = some (.array 12 35) := by kernel_rfl
theorem Tryd.ty_bu36 (parts : List (Nat × AV)) : aBuild Tryd.prog 36 parts = (fillA (fun i => some (i * 5, 5)) [.str ByteArray.empty, .int .i64 0, .int .i64 0, .int .i64 0, .int .i64 0, .str ByteArray.empty, .int .i64 0, .int .i64 0, .int .i64 0, .int .i64 0, .str ByteArray.empty, .int .i64 0, .int .i64 0, .int .i64 0, .int .i64 0, .str ByteArray.empty, .int .i64 0, .int .i64 0, .int .i64 0, .int .i64 0, .str ByteArray.empty, .int .i64 0, .int .i64 0, .int .i64 0, .int .i64 0, .str ByteArray.empty, .int .i64 0, .int .i64 0, .int .i64 0, .int .i64 0, .str ByteArray.empty, .int .i64 0, .int .i64 0, .int .i64 0, .int .i64 0, .str ByteArray.empty, .int .i64 0, .int .i64 0, .int .i64 0, .int .i64 0, .str ByteArray.empty, .int .i64 0, .int .i64 0, .int .i64 0, .int .i64 0, .str ByteArray.empty, .int .i64 0, .int .i64 0, .int .i64 0, .int .i64 0, .str ByteArray.empty, .int .i64 0, .int .i64 0, .int .i64 0, .int .i64 0, .str ByteArray.empty, .int .i64 0, .int .i64 0, .int .i64 0, .int .i64 0] parts).map .agg := aBuild_array (n := 12) (e := 35) (by kernel_rfl) (by kernel_rfl) (by kernel_rfl)
theorem Tryd.ty_size37 : tsize Tryd.prog 37 = some 1 := by kernel_rfl
theorem Tryd.ty_agg37 : tagg Tryd.prog 37 = some false := by kernel_rfl
theorem Tryd.ty_zero37 : tzero Tryd.prog 37 = some .nilfn := by kernel_rfl
theorem Tryd.ty_size38 : tsize Tryd.prog 38 = some 1 := by kernel_rfl
theorem Tryd.ty_agg38 : tagg Tryd.prog 38 = some false := by kernel_rfl
theorem Tryd.ty_zero38 : tzero Tryd.prog 38 = some .nilfn := by kernel_rfl
theorem Tryd.ty_size39 : tsize Tryd.prog 39 = some 1 := by kernel_rfl
theorem Tryd.ty_agg39 : tagg Tryd.prog 39 = some false := by kernel_rfl
theorem Tryd.ty_zero39 : tzero Tryd.prog 39 = some .nilfn := by kernel_rfl
theorem Tryd.ty_size40 : tsize Tryd.prog 40 = some 1 := by kernel_rfl
theorem Tryd.ty_agg40 : tagg Tryd.prog 40 = some false := by kernel_rfl
theorem Tryd.ty_zero40 : tzero Tryd.prog 40 = some .nilfn := by kernel_rfl
theorem Tryd.ty_size41 : tsize Tryd.prog 41 = some 1 := by kernel_rfl
theorem Tryd.ty_agg41 : tagg Tryd.prog 41 = some false := by kernel_rfl
theorem Tryd.ty_zero41 : tzero Tryd.prog 41 = some .nilfn := by kernel_rfl
theorem Tryd.ty_size42 : tsize Tryd.prog 42 = some 1 := by kernel_rfl
theorem Tryd.ty_agg42 : tagg Tryd.prog 42 = some false := by kernel_rfl
theorem Tryd.ty_zero42 : tzero Tryd.prog 42 = some .nilfn := by kernel_rfl
theorem Tryd.ty_size43 : tsize Tryd.prog 43 = some 1 := by kernel_rfl
theorem Tryd.ty_agg43 : tagg Tryd.prog 43 = some false := by kernel_rfl
theorem Tryd.ty_zero43 : tzero Tryd.prog 43 = some .nilfn := by kernel_rfl
theorem Tryd.ty_size44 : tsize Tryd.prog 44 = some 1 := by kernel_rfl
theorem Tryd.ty_agg44 : tagg Tryd.prog 44 = some false := by kernel_rfl
theorem Tryd.ty_zero44 : tzero Tryd.prog 44 = some .nilfn := by kernel_rfl
theorem Tryd.ty_size45 : tsize Tryd.prog 45 = some 1 := by kernel_rfl
theorem Tryd.ty_agg45 : tagg Tryd.prog 45 = some false := by kernel_rfl
theorem Tryd.ty_zero45 : tzero Tryd.prog 45 = some .nilfn := by kernel_rfl
theorem Tryd.ty_size46 : tsize Tryd.prog 46 = some 1 := by kernel_rfl
theorem Tryd.ty_agg46 : tagg Tryd.prog 46 = some false := by kernel_rfl
theorem Tryd.ty_zero46 : tzero Tryd.prog 46 = some .nilfn := by kernel_rfl
theorem Tryd.ty_size47 : tsize Tryd.prog 47 = some 8 := by kernel_rfl
theorem Tryd.ty_bytes47 : tbytes Tryd.prog 47 = some 8 := by kernel_rfl
theorem Tryd.ty_agg47 : tagg Tryd.prog 47 = some true := by kernel_rfl
theorem Tryd.ty_zero47 : tzero Tryd.prog 47 = some (.agg [.bool false, .bool false, .bool false, .bool false, .bool false, .bool false, .bool false, .bool false]) := by kernel_rfl
theorem Tryd.ty_sl47 : isSlice Tryd.prog 47 = false := by kernel_rfl
theorem Tryd.ty_b47 : isBool Tryd.prog 47 = false := by kernel_rfl
theorem Tryd.ty_u47 : Tryd.prog.underlying 47 = some (.array 8 4) := by kernel_rfl
theorem Tryd.ty_bu47 (parts : List (Nat × AV)) : aBuild Tryd.prog 47 parts = (fillA (fun i => some (i * 1, 1)) [.bool false, .bool false, .bool false, .bool false, .bool false, .bool false, .bool false, .bool false] parts).map .agg := aBuild_array (n := 8) (e := 4) (by kernel_rfl) (by kernel_rfl) (by kernel_rfl)
theorem Tryd.ty_size48 : tsize Tryd.prog 48 = some 1 := by kernel_rfl
theorem Tryd.ty_agg48 : tagg Tryd.prog 48 = some false := by kernel_rfl
theorem Tryd.ty_zero48 : tzero Tryd.prog 48 = some .nilfn := by kernel_rfl
theorem Tryd.ty_size49 : tsize Tryd.prog 49 = some 1 := by kernel_rfl
theorem Tryd.ty_agg49 : tagg Tryd.prog 49 = some false := by kernel_rfl
theorem Tryd.ty_zero49 : tzero Tryd.prog 49 = some .nilfn := by kernel_rfl
theorem Tryd.ty_size50 : tsize Tryd.prog 50 = some 1 := by kernel_rfl
theorem Tryd.ty_agg50 : tagg Tryd.prog 50 = some false := by kernel_rfl
theorem Tryd.ty_zero50 : tzero Tryd.prog 50 = some .nilfn := by kernel_rfl
theorem Tryd.ty_size52 : tsize Tryd.prog 52 = some 1 := by kernel_rfl
theorem Tryd.ty_agg52 : tagg Tryd.prog 52 = some false := by kernel_rfl
theorem Tryd.ty_zero52 : tzero Tryd.prog 52 = some .nilfn := by kernel_rfl
theorem Tryd.ty_size53 : tsize Tryd.prog 53 = some 1 := by kernel_rfl
theorem Tryd.ty_agg53 : tagg Tryd.prog 53 = some false := by kernel_rfl
theorem Tryd.ty_zero53 : tzero Tryd.prog 53 = some .nilfn := by kernel_rfl
theorem Tryd.ty_size55 : tsize Tryd.prog 55 = some 1 := by kernel_rfl
theorem Tryd.ty_agg55 : tagg Tryd.prog 55 = some false := by kernel_rfl
theorem Tryd.ty_zero55 : tzero Tryd.prog 55 = some .nilfn := by kernel_rfl
theorem Tryd.ty_size56 : tsize Tryd.prog 56 = some 1 := by kernel_rfl
theorem Tryd.ty_bytes56 : tbytes Tryd.prog 56 = some 24 := by kernel_rfl
theorem Tryd.ty_agg56 : tagg Tryd.prog 56 = some false := by kernel_rfl
theorem Tryd.ty_zero56 : tzero Tryd.prog 56 = some (.sl true []) := by kernel_rfl
theorem Tryd.ty_elem56 : elemOf' Tryd.prog 56 = some 3 := by kernel_rfl
theorem Tryd.ty_sl56 : isSlice Tryd.prog 56 = true := by kernel_rfl
theorem Tryd.ty_ni56 : notInt Tryd.prog 56 = true := by kernel_rfl
theorem Tryd.ty_b56 : isBool Tryd.prog 56 = false := by kernel_rfl
theorem Tryd.ty_u56 : Tryd.prog.underlying 56 = some (.slice 3) := by kernel_rfl
theorem Tryd.ty_size57 : tsize Tryd.prog 57 = some 2 := by kernel_rfl
theorem Tryd.ty_bytes57 : tbytes Tryd.prog 57 = some 32 := by kernel_rfl
theorem Tryd.ty_agg57 : tagg Tryd.prog 57 = some true := by kernel_rfl
theorem Tryd.ty_zero57 : tzero Tryd.prog 57 = some (.agg [.sl true [], .int .i64 0]) := by kernel_rfl
theorem Tryd.ty_sl57 : isSlice Tryd.prog 57 = false := by kernel_rfl
theorem Tryd.ty_b57 : isBool Tryd.prog 57 = false := by kernel_rfl
theorem Tryd.ty_f57_0 : (fieldOf Tryd.prog 57 0).map (fun d => (d.type, d.offset)) = some (56, 0) := by kernel_rfl
theorem Tryd.ty_fo57_0 : ∃ d, fieldOf Tryd.prog 57 0 = some d ∧ d.type = 56 ∧ d.offset = 0 := fieldOf_some Tryd.ty_f57_0
theorem Tryd.ty_fa57_0 (x : AV) (rows : Nat → ARow) : aFieldAddr Tryd.prog 57 x 0 rows = fieldAddrA Tryd.prog 56 0 x rows := aFieldAddr_of Tryd.ty_fo57_0 x rows
theorem Tryd.ty_ff57_0 (x : AV) : aField Tryd.prog 57 x 0 = fieldA Tryd.prog 56 0 x := aField_of Tryd.ty_fo57_0 x
theorem Tryd.ty_f57_1 : (fieldOf Tryd.prog 57 1).map (fun d => (d.type, d.offset)) = some (3, 1) := by kernel_rfl
theorem Tryd.ty_fo57_1 : ∃ d, fieldOf Tryd.prog 57 1 = some d ∧ d.type = 3 ∧ d.offset = 1 := fieldOf_some Tryd.ty_f57_1
theorem Tryd.ty_fa57_1 (x : AV) (rows : Nat → ARow) : aFieldAddr Tryd.prog 57 x 1 rows = fieldAddrA Tryd.prog 3 1 x rows := aFieldAddr_of Tryd.ty_fo57_1 x rows
theorem Tryd.ty_ff57_1 (x : AV) : aField Tryd.prog 57 x 1 = fieldA Tryd.prog 3 1 x := aField_of Tryd.ty_fo57_1 x
theorem Tryd.ty_bu57 (parts : List (Nat × AV)) : aBuild Tryd.prog 57 parts = (fillA (fun i => ([(0, 1), (1, 1)] : List (Nat × Nat))[i]?) [.sl true [], .int .i64 0] parts).map .agg := aBuild_struct (by kernel_rfl) (by kernel_rfl)
theorem Tryd.ty_size58 : tsize Tryd.prog 58 = some 2 := by kernel_rfl
theorem Tryd.ty_bytes58 : tbytes Tryd.prog 58 = some 32 := by kernel_rfl
theorem Tryd.ty_agg58 : tagg Tryd.prog 58 = some true := by kernel_rfl
theorem Tryd.ty_zero58 : tzero Tryd.prog 58 = some (.agg [.sl true [], .int .i64 0]) := by kernel_rfl
theorem Tryd.ty_sl58 : isSlice Tryd.prog 58 = false := by kernel_rfl
theorem Tryd.ty_b58 : isBool Tryd.prog 58 = false := by kernel_rfl
theorem Tryd.ty_f58_0 : (fieldOf Tryd.prog 58 0).map (fun d => (d.type, d.offset)) = some (56, 0) := by kernel_rfl
theorem Tryd.ty_fo58_0 : ∃ d, fieldOf Tryd.prog 58 0 = some d ∧ d.type = 56 ∧ d.offset = 0 := fieldOf_some Tryd.ty_f58_0
theorem Tryd.ty_fa58_0 (x : AV) (rows : Nat → ARow) : aFieldAddr Tryd.prog 58 x 0 rows = fieldAddrA Tryd.prog 56 0 x rows := aFieldAddr_of Tryd.ty_fo58_0 x rows
theorem Tryd.ty_ff58_0 (x : AV) : aField Tryd.prog 58 x 0 = fieldA Tryd.prog 56 0 x := aField_of Tryd.ty_fo58_0 x
theorem Tryd.ty_f58_1 : (fieldOf Tryd.prog 58 1).map (fun d => (d.type, d.offset)) = some (3, 1) := by kernel_rfl
theorem Tryd.ty_fo58_1 : ∃ d, fieldOf Tryd.prog 58 1 = some d ∧ d.type = 3 ∧ d.offset = 1 := fieldOf_some Tryd.ty_f58_1
theorem Tryd.ty_fa58_1 (x : AV) (rows : Nat → ARow) : aFieldAddr Tryd.prog 58 x 1 rows = fieldAddrA Tryd.prog 3 1 x rows := aFieldAddr_of Tryd.ty_fo58_1 x rows
theorem Tryd.ty_ff58_1 (x : AV) : aField Tryd.prog 58 x 1 = fieldA Tryd.prog 3 1 x := aField_of Tryd.ty_fo58_1 x
theorem Tryd.ty_bu58 (parts : List (Nat × AV)) : aBuild Tryd.prog 58 parts = (fillA (fun i => ([(0, 1), (1, 1)] : List (Nat × Nat))[i]?) [.sl true [], .int .i64 0] parts).map .agg := aBuild_struct (by kernel_rfl) (by kernel_rfl)
theorem Tryd.ty_size59 : tsize Tryd.prog 59 = some 1 := by kernel_rfl
theorem Tryd.ty_bytes59 : tbytes Tryd.prog 59 = some 24 := by kernel_rfl
theorem Tryd.ty_agg59 : tagg Tryd.prog 59 = some false := by kernel_rfl
theorem Tryd.ty_zero59 : tzero Tryd.prog 59 = some (.sl true []) := by kernel_rfl
theorem Tryd.ty_elem59 : elemOf' Tryd.prog 59 = some 58 := by kernel_rfl
theorem Tryd.ty_sl59 : isSlice Tryd.prog 59 = true := by kernel_rfl
theorem Tryd.ty_ni59 : notInt Tryd.prog 59 = true := by kernel_rfl
theorem Tryd.ty_b59 : isBool Tryd.prog 59 = false := by kernel_rfl
theorem Tryd.ty_u59 : Tryd.prog.underlying 59 = some (.slice 58) := by kernel_rfl
theorem Tryd.ty_size60 : tsize Tryd.prog 60 = some 1 := by kernel_rfl
theorem Tryd.ty_agg60 : tagg Tryd.prog 60 = some false := by kernel_rfl
theorem Tryd.ty_zero60 : tzero Tryd.prog 60 = some .nilfn := by kernel_rfl
theorem Tryd.ty_size61 : tsize Tryd.prog 61 = some 1 := by kernel_rfl
theorem Tryd.ty_agg61 : tagg Tryd.prog 61 = some false := by kernel_rfl
theorem Tryd.ty_zero61 : tzero Tryd.prog 61 = some .nilfn := by kernel_rfl
theorem Tryd.ty_size62 : tsize Tryd.prog 62 = some 1 := by kernel_rfl
theorem Tryd.ty_agg62 : tagg Tryd.prog 62 = some false := by kernel_rfl
theorem Tryd.ty_zero62 : tzero Tryd.prog 62 = some .nilfn := by kernel_rfl
theorem Tryd.ty_size63 : tsize Tryd.prog 63 = some 1 := by kernel_rfl
theorem Tryd.ty_agg63 : tagg Tryd.prog 63 = some false := by kernel_rfl
theorem Tryd.ty_zero63 : tzero Tryd.prog 63 = some .nilfn := by kernel_rfl
theorem Tryd.ty_size64 : tsize Tryd.prog 64 = some 256 := by kernel_rfl
theorem Tryd.ty_bytes64 : tbytes Tryd.prog 64 = some 256 := by kernel_rfl
theorem Tryd.ty_agg64 : tagg Tryd.prog 64 = some true := by kernel_rfl
theorem Tryd.ty_zero64 : tzero Tryd.prog 64 = some (.agg [.bool false, .bool false, .bool false, .bool false, .bool false, .bool false, .bool false, .bool false, .bool false, .bool false, .bool false, .bool false, .bool false, .bool false, .bool false, .bool false, .bool false, .bool false, .bool false, .bool false, .bool false, .bool false, .bool false, .bool false, .bool false, .bool false, .bool false, .bool false, .bool false, .bool false, .bool false, .bool false, .bool false, .bool false, .bool false, .bool false, .bool false, .bool false, .bool false, .bool false, .bool false, .bool false, .bool false, .bool false, .bool false, .bool false, .bool false, .bool false, .bool false, .bool false, .bool false, .bool false, .bool false, .bool false, .bool false, .bool false, .bool false, .bool false, .bool false, .bool false, .bool false, .bool false, .bool false, .bool false, .bool false, .bool false, .bool false, .bool false, .bool false, .bool false, .bool false, .bool false, .bool false, .bool false, .bool false, .bool false, .bool false, .bool false, .bool false, .bool false, .bool false, .bool false, .bool false, .bool false, .bool false, .bool false, .bool false, .bool false, .bool false, .bool false, .bool false, .bool false, .bool false, .bool false, .bool false, .bool false, .bool false, .bool false, .bool false, .bool false, .bool false, .bool false, .bool false, .bool false, .bool false, .bool false, .bool false, .bool false, .bool false, .bool false, .bool false, .bool false, .bool false, .bool false, .bool false, .bool false, .bool false, .bool false, .bool false, .bool false, .bool false, .bool false, .bool false, .bool false, .bool false, .bool false, .bool false, .bool false, .bool false, .bool false, .bool false, .bool false, .bool false, .bool false, .bool false, .bool false, .bool false, .bool false, .bool false, .bool false, .bool false, .bool false, .bool false, .bool false, .bool false, .bool false, .bool false, .bool false, .bool false, .bool false, .bool false, .bool false, .bool false, .bool false, .bool false, .bool false, .bool false, .bool false, .bool false, .bool false, .bool false, .bool false, .bool false, .bool false, .bool false, .bool false, .bool false, .bool false, .bool false, .bool false, .bool false, .bool false, .bool false, .bool false, .bool false, .bool false, .bool false, .bool false, .bool false, .bool false, .bool false, .bool false, .bool false, .bool false, .bool false, .bool false, .bool false, .bool false, .bool false, .bool false, .bool false, .bool false, .bool false, .bool false, .bool false, .bool false, .bool false, .bool false, .bool false, .bool false, .bool false, .bool false, .bool false, .bool false, .bool false, .bool false, .bool false, .bool false, .bool false, .bool false, .bool false, .bool false, .bool false, .bool false, .bool false, .bool false, .bool false, .bool false, .bool false, .bool false, .bool false, .bool false, .bool false, .bool false, .bool false, .bool false, .bool false, .bool false, .bool false, .bool false, .bool false, .bool false, .bool false, .bool false, .bool false, .bool false, .bool false, .bool false, .bool false, .bool false, .bool false, .bool false, .bool false, .bool false, .bool false, .bool false, .bool false, .bool false, .bool false, .bool false, .bool false, .bool false, .bool false, .bool false, .bool false, .bool false]) := by kernel_rfl
theorem Tryd.ty_sl64 : isSlice Tryd.prog 64 = false := by kernel_rfl
theorem Tryd.ty_b64 : isBool Tryd.prog 64 = false := by kernel_rfl
theorem Tryd.ty_u64 : Tryd.prog.underlying 64 = some (.array 256 4) := by kernel_rfl
theorem Tryd.ty_size65 : tsize Tryd.prog 65 = some 256 := by kernel_rfl
theorem Tryd.ty_bytes65 : tbytes Tryd.prog 65 = some 256 := by kernel_rfl
theorem Tryd.ty_agg65 : tagg Tryd.prog 65 = some true := by kernel_rfl
theorem Tryd.ty_zero65 : tzero Tryd.prog 65 = some (.agg [.bool false, .bool false, .bool false, .bool false, .bool false, .bool false, .bool false, .bool false, .bool false, .bool false, .bool false, .bool false, .bool false, .bool false, .bool false, .bool false, .bool false, .bool false, .bool false, .bool false, .bool false, .bool false, .bool false, .bool false, .bool false, .bool false, .bool false, .bool false, .bool false, .bool false, .bool false, .bool false, .bool false, .bool false, .bool false, .bool false, .bool false, .bool false, .bool false, .bool false, .bool false, .bool false, .bool false, .bool false, .bool false, .bool false, .bool false, .bool false, .bool false, .bool false, .bool false, .bool false, .bool false, .bool false, .bool false, .bool false, .bool false, .bool false, .bool false, .bool false, .bool false, .bool false, .bool false, .bool false, .bool false, .bool false, .bool false, .bool false, .bool false, .bool false, .bool false, .bool false, .bool false, .bool false, .bool false, .bool false, .bool false, .bool false, .bool false, .bool false, .bool false, .bool false, .bool false, .bool false, .bool false, .bool false, .bool false, .bool false, .bool false, .bool false, .bool false, .bool false, .bool false, .bool false, .bool false, .bool false, .bool false, .bool false, .bool false, .bool false, .bool false, .bool false, .bool false, .bool false, .bool false, .bool false, .bool false, .bool false, .bool false, .bool false, .bool false, .bool false, .bool false, .bool false, .bool false, .bool false, .bool false, .bool false, .bool false, .bool false, .bool false, .bool false, .bool false, .bool false, .bool false, .bool false, .bool false, .bool false, .bool false, .bool false, .bool false, .bool false, .bool false, .bool false, .bool false, .bool false, .bool false, .bool false, .bool false, .bool false, .bool false, .bool false, .bool false, .bool false, .bool false, .bool false, .bool false, .bool false, .bool false, .bool false, .bool false, .bool false, .bool false, .bool false, .bool false, .bool false, .bool false, .bool false, .bool false, .bool false, .bool false, .bool false, .bool false, .bool false, .bool false, .bool false, .bool false, .bool false, .bool false, .bool false, .bool false, .bool false, .bool false, .bool false, .bool false, .bool false, .bool false, .bool false, .bool false, .bool false, .bool false, .bool false, .bool false, .bool false, .bool false, .bool false, .bool false, .bool false, .bool false, .bool false, .bool false, .bool false, .bool false, .bool false, .bool false, .bool false, .bool false, .bool false, .bool false, .bool false, .bool false, .bool false, .bool false, .bool false, .bool false, .bool false, .bool false, .bool false, .bool false, .bool false, .bool false, .bool false, .bool false, .bool false, .bool false, .bool false, .bool false, .bool false, .bool false, .bool false, .bool false, .bool false, .bool false, .bool false, .bool false, .bool false, .bool false, .bool false, .bool false, .bool false, .bool false, .bool false, .bool false, .bool false, .bool false, .bool false, .bool false, .bool false, .bool false, .bool false, .bool false, .bool false, .bool false, .bool false, .bool false, .bool false, .bool false, .bool false, .bool false, .bool false, .bool false, .bool false, .bool false, .bool false, .bool false, .bool false]) := by kernel_rfl
theorem Tryd.ty_sl65 : isSlice Tryd.prog 65 = false := by kernel_rfl
theorem Tryd.ty_b65 : isBool Tryd.prog 65 = false := by kernel_rfl
theorem Tryd.ty_u65 : Tryd.prog.underlying 65 = some (.array 256 4) := by kernel_rfl
theorem Tryd.ty_size67 : tsize Tryd.prog 67 = some 1 := by kernel_rfl
theorem Tryd.ty_agg67 : tagg Tryd.prog 67 = some false := by kernel_rfl
theorem Tryd.ty_zero67 : tzero Tryd.prog 67 = some .nilfn := by kernel_rfl
theorem Tryd.ty_size68 : tsize Tryd.prog 68 = some 1 := by kernel_rfl
theorem Tryd.ty_agg68 : tagg Tryd.prog 68 = some false := by kernel_rfl
theorem Tryd.ty_zero68 : tzero Tryd.prog 68 = some .nilfn := by kernel_rfl
theorem Tryd.ty_size69 : tsize Tryd.prog 69 = some 1 := by kernel_rfl
theorem Tryd.ty_bytes69 : tbytes Tryd.prog 69 = some 8 := by kernel_rfl
theorem Tryd.ty_agg69 : tagg Tryd.prog 69 = some false := by kernel_rfl
theorem Tryd.ty_zero69 : tzero Tryd.prog 69 = some (.nilptr) := by kernel_rfl
theorem Tryd.ty_sl69 : isSlice Tryd.prog 69 = false := by kernel_rfl
theorem Tryd.ty_b69 : isBool Tryd.prog 69 = false := by kernel_rfl
theorem Tryd.ty_size70 : tsize Tryd.prog 70 = some 1 := by kernel_rfl
theorem Tryd.ty_bytes70 : tbytes Tryd.prog 70 = some 8 := by kernel_rfl
theorem Tryd.ty_agg70 : tagg Tryd.prog 70 = some false := by kernel_rfl
theorem Tryd.ty_zero70 : tzero Tryd.prog 70 = some (.mp [] []) := by kernel_rfl
theorem Tryd.ty_sl70 : isSlice Tryd.prog 70 = false := by kernel_rfl
theorem Tryd.ty_b70 : isBool Tryd.prog 70 = false := by kernel_rfl
theorem Tryd.ty_map70 : mapOf Tryd.prog 70 = some (3, 26, .int .i64) := by kernel_rfl
theorem Tryd.ty_u70 : Tryd.prog.underlying 70 = some (.map 3 26) := by kernel_rfl
theorem Tryd.ty_size71 : tsize Tryd.prog 71 = some 1 := by kernel_rfl
theorem Tryd.ty_bytes71 : tbytes Tryd.prog 71 = some 8 := by kernel_rfl
theorem Tryd.ty_agg71 : tagg Tryd.prog 71 = some false := by kernel_rfl
theorem Tryd.ty_zero71 : tzero Tryd.prog 71 = some (.mp [] []) := by kernel_rfl
theorem Tryd.ty_sl71 : isSlice Tryd.prog 71 = false := by kernel_rfl
theorem Tryd.ty_b71 : isBool Tryd.prog 71 = false := by kernel_rfl
theorem Tryd.ty_map71 : mapOf Tryd.prog 71 = some (3, 26, .int .i64) := by kernel_rfl
theorem Tryd.ty_u71 : Tryd.prog.underlying 71 = some (.map 3 26) := by kernel_rfl
theorem Tryd.ty_size72 : tsize Tryd.prog 72 = some 1 := by kernel_rfl
theorem Tryd.ty_agg72 : tagg Tryd.prog 72 = some false := by kernel_rfl
theorem Tryd.ty_zero72 : tzero Tryd.prog 72 = some .nilfn := by kernel_rfl
theorem Tryd.ty_size73 : tsize Tryd.prog 73 = some 1 := by kernel_rfl
theorem Tryd.ty_bytes73 : tbytes Tryd.prog 73 = some 24 := by kernel_rfl
theorem Tryd.ty_agg73 : tagg Tryd.prog 73 = some false := by kernel_rfl
theorem Tryd.ty_zero73 : tzero Tryd.prog 73 = some (.sl true []) := by kernel_rfl
theorem Tryd.ty_elem73 : elemOf' Tryd.prog 73 = some 56 := by kernel_rfl
theorem Tryd.ty_sl73 : isSlice Tryd.prog 73 = true := by kernel_rfl
theorem Tryd.ty_ni73 : notInt Tryd.prog 73 = true := by kernel_rfl
theorem Tryd.ty_b73 : isBool Tryd.prog 73 = false := by kernel_rfl
theorem Tryd.ty_u73 : Tryd.prog.underlying 73 = some (.slice 56) := by kernel_rfl
theorem Tryd.ty_size74 : tsize Tryd.prog 74 = some 1 := by kernel_rfl
theorem Tryd.ty_agg74 : tagg Tryd.prog 74 = some false := by kernel_rfl
theorem Tryd.ty_zero74 : tzero Tryd.prog 74 = some .nilfn := by kernel_rfl
theorem Tryd.ty_size75 : tsize Tryd.prog 75 = some 1 := by kernel_rfl
theorem Tryd.ty_agg75 : tagg Tryd.prog 75 = some false := by kernel_rfl
theorem Tryd.ty_zero75 : tzero Tryd.prog 75 = some .nilfn := by kernel_rfl
theorem Tryd.ty_size76 : tsize Tryd.prog 76 = some 1 := by kernel_rfl
theorem Tryd.ty_agg76 : tagg Tryd.prog 76 = some false := by kernel_rfl
theorem Tryd.ty_zero76 : tzero Tryd.prog 76 = some .nilfn := by kernel_rfl
theorem Tryd.ty_size77 : tsize Tryd.prog 77 = some 1 := by kernel_rfl
theorem Tryd.ty_agg77 : tagg Tryd.prog 77 = some false := by kernel_rfl
theorem Tryd.ty_zero77 : tzero Tryd.prog 77 = some .nilfn := by kernel_rfl
theorem Tryd.ty_size78 : tsize Tryd.prog 78 = some 1 := by kernel_rfl
theorem Tryd.ty_agg78 : tagg Tryd.prog 78 = some false := by kernel_rfl
theorem Tryd.ty_zero78 : tzero Tryd.prog 78 = some .nilfn := by kernel_rfl
theorem Tryd.ty_size79 : tsize Tryd.prog 79 = some 1 := by kernel_rfl
theorem Tryd.ty_agg79 : tagg Tryd.prog 79 = some false := by kernel_rfl
theorem Tryd.ty_zero79 : tzero Tryd.prog 79 = some .nilfn := by kernel_rfl
theorem Tryd.ty_size81 : tsize Tryd.prog 81 = some 1 := by kernel_rfl
theorem Tryd.ty_agg81 : tagg Tryd.prog 81 = some false := by kernel_rfl
theorem Tryd.ty_zero81 : tzero Tryd.prog 81 = some .nilfn := by kernel_rfl
theorem Tryd.ty_size82 : tsize Tryd.prog 82 = some 1 := by kernel_rfl
theorem Tryd.ty_agg82 : tagg Tryd.prog 82 = some false := by kernel_rfl
theorem Tryd.ty_zero82 : tzero Tryd.prog 82 = some .nilfn := by kernel_rfl
theorem Tryd.ty_size83 : tsize Tryd.prog 83 = some 1 := by kernel_rfl
theorem Tryd.ty_agg83 : tagg Tryd.prog 83 = some false := by kernel_rfl
theorem Tryd.ty_zero83 : tzero Tryd.prog 83 = some .nilfn := by kernel_rfl
theorem Tryd.ty_size84 : tsize Tryd.prog 84 = some 1 := by kernel_rfl
theorem Tryd.ty_agg84 : tagg Tryd.prog 84 = some false := by kernel_rfl
theorem Tryd.ty_zero84 : tzero Tryd.prog 84 = some .nilfn := by kernel_rfl
theorem Tryd.ty_size85 : tsize Tryd.prog 85 = some 1 := by kernel_rfl
theorem Tryd.ty_agg85 : tagg Tryd.prog 85 = some false := by kernel_rfl
theorem Tryd.ty_zero85 : tzero Tryd.prog 85 = some .nilfn := by kernel_rfl
theorem Tryd.ty_size86 : tsize Tryd.prog 86 = some 1 := by kernel_rfl
theorem Tryd.ty_agg86 : tagg Tryd.prog 86 = some false := by kernel_rfl
theorem Tryd.ty_zero86 : tzero Tryd.prog 86 = some .nilfn := by kernel_rfl
theorem Tryd.ty_size87 : tsize Tryd.prog 87 = some 1 := by kernel_rfl
theorem Tryd.ty_agg87 : tagg Tryd.prog 87 = some false := by kernel_rfl
theorem Tryd.ty_zero87 : tzero Tryd.prog 87 = some .nilfn := by kernel_rfl
theorem Tryd.ty_size88 : tsize Tryd.prog 88 = some 1 := by kernel_rfl
theorem Tryd.ty_agg88 : tagg Tryd.prog 88 = some false := by kernel_rfl
theorem Tryd.ty_zero88 : tzero Tryd.prog 88 = some .nilfn := by kernel_rfl
theorem Tryd.ty_size89 : tsize Tryd.prog 89 = some 1 := by kernel_rfl
theorem Tryd.ty_agg89 : tagg Tryd.prog 89 = some false := by kernel_rfl
theorem Tryd.ty_zero89 : tzero Tryd.prog 89 = some .nilfn := by kernel_rfl
theorem Tryd.ty_size90 : tsize Tryd.prog 90 = some 1 := by kernel_rfl
theorem Tryd.ty_agg90 : tagg Tryd.prog 90 = some false := by kernel_rfl
theorem Tryd.ty_zero90 : tzero Tryd.prog 90 = some .nilfn := by kernel_rfl
theorem Tryd.ty_size91 : tsize Tryd.prog 91 = some 1 := by kernel_rfl
theorem Tryd.ty_agg91 : tagg Tryd.prog 91 = some false := by kernel_rfl
theorem Tryd.ty_zero91 : tzero Tryd.prog 91 = some .nilfn := by kernel_rfl
theorem Tryd.ty_size92 : tsize Tryd.prog 92 = some 1 := by kernel_rfl
theorem Tryd.ty_agg92 : tagg Tryd.prog 92 = some false := by kernel_rfl
theorem Tryd.ty_zero92 : tzero Tryd.prog 92 = some .nilfn := by kernel_rfl
theorem Tryd.ty_size93 : tsize Tryd.prog 93 = some 1 := by kernel_rfl
theorem Tryd.ty_agg93 : tagg Tryd.prog 93 = some false := by kernel_rfl
theorem Tryd.ty_zero93 : tzero Tryd.prog 93 = some .nilfn := by kernel_rfl
theorem Tryd.ty_size94 : tsize Tryd.prog 94 = some 256 := by kernel_rfl
theorem Tryd.ty_bytes94 : tbytes Tryd.prog 94 = some 256 := by kernel_rfl
theorem Tryd.ty_agg94 : tagg Tryd.prog 94 = some true := by kernel_rfl
theorem Tryd.ty_zero94 : tzero Tryd.prog 94 = some (.agg [.int .u8 0, .int .u8 0, .int .u8 0, .int .u8 0, .int .u8 0, .int .u8 0, .int .u8 0, .int .u8 0, .int .u8 0, .int .u8 0, .int .u8 0, .int .u8 0, .int .u8 0, .int .u8 0, .int .u8 0, .int .u8 0, .int .u8 0, .int .u8 0, .int .u8 0, .int .u8 0, .int .u8 0, .int .u8 0, .int .u8 0, .int .u8 0, .int .u8 0, .int .u8 0, .int .u8 0, .int .u8 0, .int .u8 0, .int .u8 0, .int .u8 0, .int .u8 0, .int .u8 0, .int .u8 0, .int .u8 0, .int .u8 0, .int .u8 0, .int .u8 0, .int .u8 0, .int .u8 0, .int .u8 0, .int .u8 0, .int .u8 0, .int .u8 0, .int .u8 0, .int .u8 0, .int .u8 0, .int .u8 0, .int .u8 0, .int .u8 0, .int .u8 0, .int .u8 0, .int .u8 0, .int .u8 0, .int .u8 0, .int .u8 0, .int .u8 0, .int .u8 0, .int .u8 0, .int .u8 0, .int .u8 0, .int .u8 0, .int .u8 0, .int .u8 0, .int .u8 0, .int .u8 0, .int .u8 0, .int .u8 0, .int .u8 0, .int .u8 0, .int .u8 0, .int .u8 0, .int .u8 0, .int .u8 0, .int .u8 0, .int .u8 0, .int .u8 0, .int .u8 0, .int .u8 0, .int .u8 0, .int .u8 0, .int .u8 0, .int .u8 0, .int .u8 0, .int .u8 0, .int .u8 0, .int .u8 0, .int .u8 0, .int .u8 0, .int .u8 0, .int .u8 0, .int .u8 0, .int .u8 0, .int .u8 0, .int .u8 0, .int .u8 0, .int .u8 0, .int .u8 0, .int .u8 0, .int .u8 0, .int .u8 0, .int .u8 0, .int .u8 0, .int .u8 0, .int .u8 0, .int .u8 0, .int .u8 0, .int .u8 0, .int .u8 0, .int .u8 0, .int .u8 0, .int .u8 0, .int .u8 0, .int .u8 0, .int .u8 0, .int .u8 0, .int .u8 0, .int .u8 0, .int .u8 0, .int .u8 0, .int .u8 0, .int .u8 0, .int .u8 0, .int .u8 0, .int .u8 0, .int .u8 0, .int .u8 0, .int .u8 0, .int .u8 0, .int .u8 0, .int .u8 0, .int .u8 0, .int .u8 0, .int .u8 0, .int .u8 0, .int .u8 0, .int .u8 0, .int .u8 0, .int .u8 0, .int .u8 0, .int .u8 0, .int .u8 0, .int .u8 0, .int .u8 0, .int .u8 0, .int .u8 0, .int .u8 0, .int .u8 0, .int .u8 0, .int .u8 0, .int .u8 0, .int .u8 0, .int .u8 0, .int .u8 0, .int .u8 0, .int .u8 0, .int .u8 0, .int .u8 0, .int .u8 0, .int .u8 0, .int .u8 0, .int .u8 0, .int .u8 0, .int .u8 0, .int .u8 0, .int .u8 0, .int .u8 0, .int .u8 0, .int .u8 0, .int .u8 0, .int .u8 0, .int .u8 0, .int .u8 0, .int .u8 0, .int .u8 0, .int .u8 0, .int .u8 0, .int .u8 0, .int .u8 0, .int .u8 0, .int .u8 0, .int .u8 0, .int .u8 0, .int .u8 0, .int .u8 0, .int .u8 0, .int .u8 0, .int .u8 0, .int .u8 0, .int .u8 0, .int .u8 0, .int .u8 0, .int .u8 0, .int .u8 0, .int .u8 0, .int .u8 0, .int .u8 0, .int .u8 0, .int .u8 0, .int .u8 0, .int .u8 0, .int .u8 0, .int .u8 0, .int .u8 0, .int .u8 0, .int .u8 0, .int .u8 0, .int .u8 0, .int .u8 0, .int .u8 0, .int .u8 0, .int .u8 0, .int .u8 0, .int .u8 0, .int .u8 0, .int .u8 0, .int .u8 0, .int .u8 0, .int .u8 0, .int .u8 0, .int .u8 0, .int .u8 0, .int .u8 0, .int .u8 0, .int .u8 0, .int .u8 0, .int .u8 0, .int .u8 0, .int .u8 0, .int .u8 0, .int .u8 0, .int .u8 0, .int .u8 0, .int .u8 0, .int .u8 0, .int .u8 0, .int .u8 0, .int .u8 0, .int .u8 0, .int .u8 0, .int .u8 0, .int .u8 0, .int .u8 0, .int .u8 0, .int .u8 0, .int .u8 0, .int .u8 0, .int .u8 0, .int .u8 0, .int .u8 0, .int .u8 0, .int .u8 0, .int .u8 0, .int .u8 0, .int .u8 0, .int .u8 0]) := by kernel_rfl
theorem Tryd.ty_sl94 : isSlice Tryd.prog 94 = false := by kernel_rfl
theorem Tryd.ty_b94 : isBool Tryd.prog 94 = false := by kernel_rfl
theorem Tryd.ty_u94 : Tryd.prog.underlying 94 = some (.array 256 5) := by kernel_rfl
theorem Tryd.ty_size95 : tsize Tryd.prog 95 = some 1 := by kernel_rfl
theorem Tryd.ty_bytes95 : tbytes Tryd.prog 95 = some 8 := by kernel_rfl
theorem Tryd.ty_agg95 : tagg Tryd.prog 95 = some false := by kernel_rfl
theorem Tryd.ty_zero95 : tzero Tryd.prog 95 = some (.int .u64 0) := by kernel_rfl
theorem Tryd.ty_sl95 : isSlice Tryd.prog 95 = false := by kernel_rfl
theorem Tryd.ty_b95 : isBool Tryd.prog 95 = false := by kernel_rfl
theorem Tryd.ty_u95 : Tryd.prog.underlying 95 = some (.int .u64) := by kernel_rfl
theorem Tryd.ty_size96 : tsize Tryd.prog 96 = some 2 := by kernel_rfl
theorem Tryd.ty_bytes96 : tbytes Tryd.prog 96 = some 2 := by kernel_rfl
theorem Tryd.ty_agg96 : tagg Tryd.prog 96 = some true := by kernel_rfl
theorem Tryd.ty_zero96 : tzero Tryd.prog 96 = some (.agg [.int .u8 0, .int .u8 0]) := by kernel_rfl
theorem Tryd.ty_sl96 : isSlice Tryd.prog 96 = false := by kernel_rfl
theorem Tryd.ty_b96 : isBool Tryd.prog 96 = false := by kernel_rfl
theorem Tryd.ty_f96_0 : (fieldOf Tryd.prog 96 0).map (fun d => (d.type, d.offset)) = some (5, 0) := by kernel_rfl
theorem Tryd.ty_fo96_0 : ∃ d, fieldOf Tryd.prog 96 0 = some d ∧ d.type = 5 ∧ d.offset = 0 := fieldOf_some Tryd.ty_f96_0
theorem Tryd.ty_fa96_0 (x : AV) (rows : Nat → ARow) : aFieldAddr Tryd.prog 96 x 0 rows = fieldAddrA Tryd.prog 5 0 x rows := aFieldAddr_of Tryd.ty_fo96_0 x rows
theorem Tryd.ty_ff96_0 (x : AV) : aField Tryd.prog 96 x 0 = fieldA Tryd.prog 5 0 x := aField_of Tryd.ty_fo96_0 x
theorem Tryd.ty_f96_1 : (fieldOf Tryd.prog 96 1).map (fun d => (d.type, d.offset)) = some (5, 1) := by kernel_rfl
theorem Tryd.ty_fo96_1 : ∃ d, fieldOf Tryd.prog 96 1 = some d ∧ d.type = 5 ∧ d.offset = 1 := fieldOf_some Tryd.ty_f96_1
theorem Tryd.ty_fa96_1 (x : AV) (rows : Nat → ARow) : aFieldAddr Tryd.prog 96 x 1 rows = fieldAddrA Tryd.prog 5 1 x rows := aFieldAddr_of Tryd.ty_fo96_1 x rows
theorem Tryd.ty_ff96_1 (x : AV) : aField Tryd.prog 96 x 1 = fieldA Tryd.prog 5 1 x := aField_of Tryd.ty_fo96_1 x
theorem Tryd.ty_bu96 (parts : List (Nat × AV)) : aBuild Tryd.prog 96 parts = (fillA (fun i => ([(0, 1), (1, 1)] : List (Nat × Nat))[i]?) [.int .u8 0, .int .u8 0] parts).map .agg := aBuild_struct (by kernel_rfl) (by kernel_rfl)
theorem Tryd.ty_size97 : tsize Tryd.prog 97 = some 2 := by kernel_rfl
theorem Tryd.ty_bytes97 : tbytes Tryd.prog 97 = some 2 := by kernel_rfl
theorem Tryd.ty_agg97 : tagg Tryd.prog 97 = some true := by kernel_rfl
theorem Tryd.ty_zero97 : tzero Tryd.prog 97 = some (.agg [.int .u8 0, .int .u8 0]) := by kernel_rfl
theorem Tryd.ty_sl97 : isSlice Tryd.prog 97 = false := by kernel_rfl
theorem Tryd.ty_b97 : isBool Tryd.prog 97 = false := by kernel_rfl
theorem Tryd.ty_f97_0 : (fieldOf Tryd.prog 97 0).map (fun d => (d.type, d.offset)) = some (5, 0) := by kernel_rfl
theorem Tryd.ty_fo97_0 : ∃ d, fieldOf Tryd.prog 97 0 = some d ∧ d.type = 5 ∧ d.offset = 0 := fieldOf_some Tryd.ty_f97_0
theorem Tryd.ty_fa97_0 (x : AV) (rows : Nat → ARow) : aFieldAddr Tryd.prog 97 x 0 rows = fieldAddrA Tryd.prog 5 0 x rows := aFieldAddr_of Tryd.ty_fo97_0 x rows
theorem Tryd.ty_ff97_0 (x : AV) : aField Tryd.prog 97 x 0 = fieldA Tryd.prog 5 0 x := aField_of Tryd.ty_fo97_0 x
theorem Tryd.ty_f97_1 : (fieldOf Tryd.prog 97 1).map (fun d => (d.type, d.offset)) = some (5, 1) := by kernel_rfl
theorem Tryd.ty_fo97_1 : ∃ d, fieldOf Tryd.prog 97 1 = some d ∧ d.type = 5 ∧ d.offset = 1 := fieldOf_some Tryd.ty_f97_1
theorem Tryd.ty_fa97_1 (x : AV) (rows : Nat → ARow) : aFieldAddr Tryd.prog 97 x 1 rows = fieldAddrA Tryd.prog 5 1 x rows := aFieldAddr_of Tryd.ty_fo97_1 x rows
theorem Tryd.ty_ff97_1 (x : AV) : aField Tryd.prog 97 x 1 = fieldA Tryd.prog 5 1 x := aField_of Tryd.ty_fo97_1 x
theorem Tryd.ty_bu97 (parts : List (Nat × AV)) : aBuild Tryd.prog 97 parts = (fillA (fun i => ([(0, 1), (1, 1)] : List (Nat × Nat))[i]?) [.int .u8 0, .int .u8 0] parts).map .agg := aBuild_struct (by kernel_rfl) (by kernel_rfl)
theorem Tryd.ty_size98 : tsize Tryd.prog 98 = some 32 := by kernel_rfl
theorem Tryd.ty_bytes98 : tbytes Tryd.prog 98 = some 32 := by kernel_rfl
theorem Tryd.ty_agg98 : tagg Tryd.prog 98 = some true := by kernel_rfl
theorem Tryd.ty_zero98 : tzero Tryd.prog 98 = some (.agg [.int .u8 0, .int .u8 0, .int .u8 0, .int .u8 0, .int .u8 0, .int .u8 0, .int .u8 0, .int .u8 0, .int .u8 0, .int .u8 0, .int .u8 0, .int .u8 0, .int .u8 0, .int .u8 0, .int .u8 0, .int .u8 0, .int .u8 0, .int .u8 0, .int .u8 0, .int .u8 0, .int .u8 0, .int .u8 0, .int .u8 0, .int .u8 0, .int .u8 0, .int .u8 0, .int .u8 0, .int .u8 0, .int .u8 0, .int .u8 0, .int .u8 0, .int .u8 0]) := by kernel_rfl
theorem Tryd.ty_sl98 : isSlice Tryd.prog 98 = false := by kernel_rfl
theorem Tryd.ty_b98 : isBool Tryd.prog 98 = false := by kernel_rfl
theorem Tryd.ty_u98 : Tryd.prog.underlying 98 = some (.array 16 97) := by kernel_rfl
theorem Tryd.ty_bu98 (parts : List (Nat × AV)) : aBuild Tryd.prog 98 parts = (fillA (fun i => some (i * 2, 2)) [.int .u8 0, .int .u8 0, .int .u8 0, .int .u8 0, .int .u8 0, .int .u8 0, .int .u8 0, .int .u8 0, .int .u8 0, .int .u8 0, .int .u8 0, .int .u8 0, .int .u8 0, .int .u8 0, .int .u8 0, .int .u8 0, .int .u8 0, .int .u8 0, .int .u8 0, .int .u8 0, .int .u8 0, .int .u8 0, .int .u8 0, .int .u8 0, .int .u8 0, .int .u8 0, .int .u8 0, .int .u8 0, .int .u8 0, .int .u8 0, .int .u8 0, .int .u8 0] parts).map .agg := aBuild_array (n := 16) (e := 97) (by kernel_rfl) (by kernel_rfl) (by kernel_rfl)
theorem Tryd.ty_size99 : tsize Tryd.prog 99 = some 1 := by kernel_rfl
theorem Tryd.ty_agg99 : tagg Tryd.prog 99 = some false := by kernel_rfl
theorem Tryd.ty_zero99 : tzero Tryd.prog 99 = some .nilfn := by kernel_rfl
theorem Tryd.ty_size100 : tsize Tryd.prog 100 = some 1 := by kernel_rfl
theorem Tryd.ty_agg100 : tagg Tryd.prog 100 = some false := by kernel_rfl
theorem Tryd.ty_zero100 : tzero Tryd.prog 100 = some .nilfn := by kernel_rfl
theorem Tryd.ty_size101 : tsize Tryd.prog 101 = some 1 := by kernel_rfl
theorem Tryd.ty_agg101 : tagg Tryd.prog 101 = some false := by kernel_rfl
theorem Tryd.ty_zero101 : tzero Tryd.prog 101 = some .nilfn := by kernel_rfl
theorem Tryd.ty_size102 : tsize Tryd.prog 102 = some 1 := by kernel_rfl
theorem Tryd.ty_agg102 : tagg Tryd.prog 102 = some false := by kernel_rfl
theorem Tryd.ty_zero102 : tzero Tryd.prog 102 = some .nilfn := by kernel_rfl
theorem Tryd.ty_size103 : tsize Tryd.prog 103 = some 1 := by kernel_rfl
theorem Tryd.ty_agg103 : tagg Tryd.prog 103 = some false := by kernel_rfl
theorem Tryd.ty_zero103 : tzero Tryd.prog 103 = some .nilfn := by kernel_rfl
theorem Tryd.ty_size104 : tsize Tryd.prog 104 = some 4 := by kernel_rfl
theorem Tryd.ty_bytes104 : tbytes Tryd.prog 104 = some 40 := by kernel_rfl
theorem Tryd.ty_agg104 : tagg Tryd.prog 104 = some true := by kernel_rfl
theorem Tryd.ty_zero104 : tzero Tryd.prog 104 = some (.agg [.nilptr, .nilptr, .nilptr, .str ByteArray.empty]) := by kernel_rfl
theorem Tryd.ty_sl104 : isSlice Tryd.prog 104 = false := by kernel_rfl
theorem Tryd.ty_b104 : isBool Tryd.prog 104 = false := by kernel_rfl
theorem Tryd.ty_f104_0 : (fieldOf Tryd.prog 104 0).map (fun d => (d.type, d.offset)) = some (17, 0) := by kernel_rfl
theorem Tryd.ty_fo104_0 : ∃ d, fieldOf Tryd.prog 104 0 = some d ∧ d.type = 17 ∧ d.offset = 0 := fieldOf_some Tryd.ty_f104_0
theorem Tryd.ty_fa104_0 (x : AV) (rows : Nat → ARow) : aFieldAddr Tryd.prog 104 x 0 rows = fieldAddrA Tryd.prog 17 0 x rows := aFieldAddr_of Tryd.ty_fo104_0 x rows
theorem Tryd.ty_ff104_0 (x : AV) : aField Tryd.prog 104 x 0 = fieldA Tryd.prog 17 0 x := aField_of Tryd.ty_fo104_0 x
theorem Tryd.ty_f104_1 : (fieldOf Tryd.prog 104 1).map (fun d => (d.type, d.offset)) = some (17, 1) := by kernel_rfl
theorem Tryd.ty_fo104_1 : ∃ d, fieldOf Tryd.prog 104 1 = some d ∧ d.type = 17 ∧ d.offset = 1 := fieldOf_some Tryd.ty_f104_1
theorem Tryd.ty_fa104_1 (x : AV) (rows : Nat → ARow) : aFieldAddr Tryd.prog 104 x 1 rows = fieldAddrA Tryd.prog 17 1 x rows := aFieldAddr_of Tryd.ty_fo104_1 x rows
theorem Tryd.ty_ff104_1 (x : AV) : aField Tryd.prog 104 x 1 = fieldA Tryd.prog 17 1 x := aField_of Tryd.ty_fo104_1 x
theorem Tryd.ty_f104_2 : (fieldOf Tryd.prog 104 2).map (fun d => (d.type, d.offset)) = some (17, 2) := by kernel_rfl
theorem Tryd.ty_fo104_2 : ∃ d, fieldOf Tryd.prog 104 2 = some d ∧ d.type = 17 ∧ d.offset = 2 := fieldOf_some Tryd.ty_f104_2
theorem Tryd.ty_fa104_2 (x : AV) (rows : Nat → ARow) : aFieldAddr Tryd.prog 104 x 2 rows = fieldAddrA Tryd.prog 17 2 x rows := aFieldAddr_of Tryd.ty_fo104_2 x rows
theorem Tryd.ty_ff104_2 (x : AV) : aField Tryd.prog 104 x 2 = fieldA Tryd.prog 17 2 x := aField_of Tryd.ty_fo104_2 x
theorem Tryd.ty_f104_3 : (fieldOf Tryd.prog 104 3).map (fun d => (d.type, d.offset)) = some (9, 3) := by kernel_rfl
theorem Tryd.ty_fo104_3 : ∃ d, fieldOf Tryd.prog 104 3 = some d ∧ d.type = 9 ∧ d.offset = 3 := fieldOf_some Tryd.ty_f104_3
theorem Tryd.ty_fa104_3 (x : AV) (rows : Nat → ARow) : aFieldAddr Tryd.prog 104 x 3 rows = fieldAddrA Tryd.prog 9 3 x rows := aFieldAddr_of Tryd.ty_fo104_3 x rows
theorem Tryd.ty_ff104_3 (x : AV) : aField Tryd.prog 104 x 3 = fieldA Tryd.prog 9 3 x := aField_of Tryd.ty_fo104_3 x
theorem Tryd.ty_bu104 (parts : List (Nat × AV)) : aBuild Tryd.prog 104 parts = (fillA (fun i => ([(0, 1), (1, 1), (2, 1), (3, 1)] : List (Nat × Nat))[i]?) [.nilptr, .nilptr, .nilptr, .str ByteArray.empty] parts).map .agg := aBuild_struct (by kernel_rfl) (by kernel_rfl)
theorem Tryd.ty_size105 : tsize Tryd.prog 105 = some 4 := by kernel_rfl
theorem Tryd.ty_bytes105 : tbytes Tryd.prog 105 = some 40 := by kernel_rfl
theorem Tryd.ty_agg105 : tagg Tryd.prog 105 = some true := by kernel_rfl
theorem Tryd.ty_zero105 : tzero Tryd.prog 105 = some (.agg [.nilptr, .nilptr, .nilptr, .str ByteArray.empty]) := by kernel_rfl
theorem Tryd.ty_sl105 : isSlice Tryd.prog 105 = false := by kernel_rfl
theorem Tryd.ty_b105 : isBool Tryd.prog 105 = false := by kernel_rfl
theorem Tryd.ty_f105_0 : (fieldOf Tryd.prog 105 0).map (fun d => (d.type, d.offset)) = some (17, 0) := by kernel_rfl
theorem Tryd.ty_fo105_0 : ∃ d, fieldOf Tryd.prog 105 0 = some d ∧ d.type = 17 ∧ d.offset = 0 := fieldOf_some Tryd.ty_f105_0
theorem Tryd.ty_fa105_0 (x : AV) (rows : Nat → ARow) : aFieldAddr Tryd.prog 105 x 0 rows = fieldAddrA Tryd.prog 17 0 x rows := aFieldAddr_of Tryd.ty_fo105_0 x rows
theorem Tryd.ty_ff105_0 (x : AV) : aField Tryd.prog 105 x 0 = fieldA Tryd.prog 17 0 x := aField_of Tryd.ty_fo105_0 x
theorem Tryd.ty_f105_1 : (fieldOf Tryd.prog 105 1).map (fun d => (d.type, d.offset)) = some (17, 1) := by kernel_rfl
theorem Tryd.ty_fo105_1 : ∃ d, fieldOf Tryd.prog 105 1 = some d ∧ d.type = 17 ∧ d.offset = 1 := fieldOf_some Tryd.ty_f105_1
theorem Tryd.ty_fa105_1 (x : AV) (rows : Nat → ARow) : aFieldAddr Tryd.prog 105 x 1 rows = fieldAddrA Tryd.prog 17 1 x rows := aFieldAddr_of Tryd.ty_fo105_1 x rows
theorem Tryd.ty_ff105_1 (x : AV) : aField Tryd.prog 105 x 1 = fieldA Tryd.prog 17 1 x := aField_of Tryd.ty_fo105_1 x
theorem Tryd.ty_f105_2 : (fieldOf Tryd.prog 105 2).map (fun d => (d.type, d.offset)) = some (17, 2) := by kernel_rfl
theorem Tryd.ty_fo105_2 : ∃ d, fieldOf Tryd.prog 105 2 = some d ∧ d.type = 17 ∧ d.offset = 2 := fieldOf_some Tryd.ty_f105_2
theorem Tryd.ty_fa105_2 (x : AV) (rows : Nat → ARow) : aFieldAddr Tryd.prog 105 x 2 rows = fieldAddrA Tryd.prog 17 2 x rows := aFieldAddr_of Tryd.ty_fo105_2 x rows
theorem Tryd.ty_ff105_2 (x : AV) : aField Tryd.prog 105 x 2 = fieldA Tryd.prog 17 2 x := aField_of Tryd.ty_fo105_2 x
theorem Tryd.ty_f105_3 : (fieldOf Tryd.prog 105 3).map (fun d => (d.type, d.offset)) = some (9, 3) := by kernel_rfl
theorem Tryd.ty_fo105_3 : ∃ d, fieldOf Tryd.prog 105 3 = some d ∧ d.type = 9 ∧ d.offset = 3 := fieldOf_some Tryd.ty_f105_3
theorem Tryd.ty_fa105_3 (x : AV) (rows : Nat → ARow) : aFieldAddr Tryd.prog 105 x 3 rows = fieldAddrA Tryd.prog 9 3 x rows := aFieldAddr_of Tryd.ty_fo105_3 x rows
theorem Tryd.ty_ff105_3 (x : AV) : aField Tryd.prog 105 x 3 = fieldA Tryd.prog 9 3 x := aField_of Tryd.ty_fo105_3 x
theorem Tryd.ty_bu105 (parts : List (Nat × AV)) : aBuild Tryd.prog 105 parts = (fillA (fun i => ([(0, 1), (1, 1), (2, 1), (3, 1)] : List (Nat × Nat))[i]?) [.nilptr, .nilptr, .nilptr, .str ByteArray.empty] parts).map .agg := aBuild_struct (by kernel_rfl) (by kernel_rfl)
theorem Tryd.ty_size106 : tsize Tryd.prog 106 = some 0 := by kernel_rfl
theorem Tryd.ty_bytes106 : tbytes Tryd.prog 106 = some 0 := by kernel_rfl
theorem Tryd.ty_agg106 : tagg Tryd.prog 106 = some true := by kernel_rfl
theorem Tryd.ty_zero106 : tzero Tryd.prog 106 = some (.agg []) := by kernel_rfl
theorem Tryd.ty_sl106 : isSlice Tryd.prog 106 = false := by kernel_rfl
theorem Tryd.ty_b106 : isBool Tryd.prog 106 = false := by kernel_rfl
theorem Tryd.ty_u106 : Tryd.prog.underlying 106 = some (.array 0 16) := by kernel_rfl
theorem Tryd.ty_bu106 (parts : List (Nat × AV)) : aBuild Tryd.prog 106 parts = (fillA (fun i => some (i * 1, 1)) [] parts).map .agg := aBuild_array (n := 0) (e := 16) (by kernel_rfl) (by kernel_rfl) (by kernel_rfl)
theorem Tryd.ty_size107 : tsize Tryd.prog 107 = some 0 := by kernel_rfl
theorem Tryd.ty_bytes107 : tbytes Tryd.prog 107 = some 0 := by kernel_rfl
theorem Tryd.ty_agg107 : tagg Tryd.prog 107 = some true := by kernel_rfl
theorem Tryd.ty_zero107 : tzero Tryd.prog 107 = some (.agg []) := by kernel_rfl
theorem Tryd.ty_sl107 : isSlice Tryd.prog 107 = false := by kernel_rfl
theorem Tryd.ty_b107 : isBool Tryd.prog 107 = false := by kernel_rfl
theorem Tryd.ty_f107_0 : (fieldOf Tryd.prog 107 0).map (fun d => (d.type, d.offset)) = some (106, 0) := by kernel_rfl
theorem Tryd.ty_fo107_0 : ∃ d, fieldOf Tryd.prog 107 0 = some d ∧ d.type = 106 ∧ d.offset = 0 := fieldOf_some Tryd.ty_f107_0
theorem Tryd.ty_fa107_0 (x : AV) (rows : Nat → ARow) : aFieldAddr Tryd.prog 107 x 0 rows = fieldAddrA Tryd.prog 106 0 x rows := aFieldAddr_of Tryd.ty_fo107_0 x rows
theorem Tryd.ty_ff107_0 (x : AV) : aField Tryd.prog 107 x 0 = fieldA Tryd.prog 106 0 x := aField_of Tryd.ty_fo107_0 x
theorem Tryd.ty_bu107 (parts : List (Nat × AV)) : aBuild Tryd.prog 107 parts = (fillA (fun i => ([(0, 0)] : List (Nat × Nat))[i]?) [] parts).map .agg := aBuild_struct (by kernel_rfl) (by kernel_rfl)
theorem Tryd.ty_size108 : tsize Tryd.prog 108 = some 0 := by kernel_rfl
theorem Tryd.ty_bytes108 : tbytes Tryd.prog 108 = some 0 := by kernel_rfl
theorem Tryd.ty_agg108 : tagg Tryd.prog 108 = some true := by kernel_rfl
theorem Tryd.ty_zero108 : tzero Tryd.prog 108 = some (.agg []) := by kernel_rfl
theorem Tryd.ty_sl108 : isSlice Tryd.prog 108 = false := by kernel_rfl
theorem Tryd.ty_b108 : isBool Tryd.prog 108 = false := by kernel_rfl
theorem Tryd.ty_f108_0 : (fieldOf Tryd.prog 108 0).map (fun d => (d.type, d.offset)) = some (106, 0) := by kernel_rfl
theorem Tryd.ty_fo108_0 : ∃ d, fieldOf Tryd.prog 108 0 = some d ∧ d.type = 106 ∧ d.offset = 0 := fieldOf_some Tryd.ty_f108_0
theorem Tryd.ty_fa108_0 (x : AV) (rows : Nat → ARow) : aFieldAddr Tryd.prog 108 x 0 rows = fieldAddrA Tryd.prog 106 0 x rows := aFieldAddr_of Tryd.ty_fo108_0 x rows
theorem Tryd.ty_ff108_0 (x : AV) : aField Tryd.prog 108 x 0 = fieldA Tryd.prog 106 0 x := aField_of Tryd.ty_fo108_0 x
theorem Tryd.ty_bu108 (parts : List (Nat × AV)) : aBuild Tryd.prog 108 parts = (fillA (fun i => ([(0, 0)] : List (Nat × Nat))[i]?) [] parts).map .agg := aBuild_struct (by kernel_rfl) (by kernel_rfl)
theorem Tryd.ty_size109 : tsize Tryd.prog 109 = some 1 := by kernel_rfl
theorem Tryd.ty_agg109 : tagg Tryd.prog 109 = some false := by kernel_rfl
theorem Tryd.ty_zero109 : tzero Tryd.prog 109 = some .nilfn := by kernel_rfl
theorem Tryd.ty_size110 : tsize Tryd.prog 110 = some 1 := by kernel_rfl
theorem Tryd.ty_bytes110 : tbytes Tryd.prog 110 = some 4 := by kernel_rfl
theorem Tryd.ty_agg110 : tagg Tryd.prog 110 = some false := by kernel_rfl
theorem Tryd.ty_zero110 : tzero Tryd.prog 110 = some (.int .u32 0) := by kernel_rfl
theorem Tryd.ty_sl110 : isSlice Tryd.prog 110 = false := by kernel_rfl
theorem Tryd.ty_b110 : isBool Tryd.prog 110 = false := by kernel_rfl
theorem Tryd.ty_u110 : Tryd.prog.underlying 110 = some (.int .u32) := by kernel_rfl
theorem Tryd.ty_size111 : tsize Tryd.prog 111 = some 1 := by kernel_rfl
theorem Tryd.ty_bytes111 : tbytes Tryd.prog 111 = some 1 := by kernel_rfl
theorem Tryd.ty_agg111 : tagg Tryd.prog 111 = some false := by kernel_rfl
theorem Tryd.ty_zero111 : tzero Tryd.prog 111 = some (.int .u8 0) := by kernel_rfl
theorem Tryd.ty_sl111 : isSlice Tryd.prog 111 = false := by kernel_rfl
theorem Tryd.ty_b111 : isBool Tryd.prog 111 = false := by kernel_rfl
theorem Tryd.ty_u111 : Tryd.prog.underlying 111 = some (.int .u8) := by kernel_rfl
theorem Tryd.ty_size112 : tsize Tryd.prog 112 = some 1 := by kernel_rfl
theorem Tryd.ty_bytes112 : tbytes Tryd.prog 112 = some 1 := by kernel_rfl
theorem Tryd.ty_agg112 : tagg Tryd.prog 112 = some false := by kernel_rfl
theorem Tryd.ty_zero112 : tzero Tryd.prog 112 = some (.int .u8 0) := by kernel_rfl
theorem Tryd.ty_sl112 : isSlice Tryd.prog 112 = false := by kernel_rfl
theorem Tryd.ty_b112 : isBool Tryd.prog 112 = false := by kernel_rfl
theorem Tryd.ty_u112 : Tryd.prog.underlying 112 = some (.int .u8) := by kernel_rfl
theorem Tryd.ty_size113 : tsize Tryd.prog 113 = some 1 := by kernel_rfl
theorem Tryd.ty_agg113 : tagg Tryd.prog 113 = some false := by kernel_rfl
theorem Tryd.ty_zero113 : tzero Tryd.prog 113 = some .nilfn := by kernel_rfl
theorem Tryd.ty_size114 : tsize Tryd.prog 114 = some 1 := by kernel_rfl
theorem Tryd.ty_bytes114 : tbytes Tryd.prog 114 = some 8 := by kernel_rfl
theorem Tryd.ty_agg114 : tagg Tryd.prog 114 = some false := by kernel_rfl
theorem Tryd.ty_zero114 : tzero Tryd.prog 114 = some (.nilptr) := by kernel_rfl
theorem Tryd.ty_sl114 : isSlice Tryd.prog 114 = false := by kernel_rfl
theorem Tryd.ty_b114 : isBool Tryd.prog 114 = false := by kernel_rfl
theorem Tryd.ty_size115 : tsize Tryd.prog 115 = some 1 := by kernel_rfl
theorem Tryd.ty_bytes115 : tbytes Tryd.prog 115 = some 4 := by kernel_rfl
theorem Tryd.ty_agg115 : tagg Tryd.prog 115 = some false := by kernel_rfl
theorem Tryd.ty_zero115 : tzero Tryd.prog 115 = some (.int .i32 0) := by kernel_rfl
theorem Tryd.ty_sl115 : isSlice Tryd.prog 115 = false := by kernel_rfl
theorem Tryd.ty_b115 : isBool Tryd.prog 115 = false := by kernel_rfl
theorem Tryd.ty_u115 : Tryd.prog.underlying 115 = some (.int .i32) := by kernel_rfl
theorem Tryd.ty_size116 : tsize Tryd.prog 116 = some 1 := by kernel_rfl
theorem Tryd.ty_bytes116 : tbytes Tryd.prog 116 = some 4 := by kernel_rfl
theorem Tryd.ty_agg116 : tagg Tryd.prog 116 = some false := by kernel_rfl
theorem Tryd.ty_zero116 : tzero Tryd.prog 116 = some (.int .i32 0) := by kernel_rfl
theorem Tryd.ty_sl116 : isSlice Tryd.prog 116 = false := by kernel_rfl
theorem Tryd.ty_b116 : isBool Tryd.prog 116 = false := by kernel_rfl
theorem Tryd.ty_u116 : Tryd.prog.underlying 116 = some (.int .i32) := by kernel_rfl
theorem Tryd.ty_size117 : tsize Tryd.prog 117 = some 11 := by kernel_rfl
theorem Tryd.ty_bytes117 : tbytes Tryd.prog 117 = some 48 := by kernel_rfl
theorem Tryd.ty_agg117 : tagg Tryd.prog 117 = some true := by kernel_rfl
theorem Tryd.ty_zero117 : tzero Tryd.prog 117 = some (.agg [.int .u64 0, .int .u64 0, .int .u32 0, .int .u8 0, .int .u8 0, .int .u8 0, .int .u8 0, .nilfn, .nilptr, .int .i32 0, .int .i32 0]) := by kernel_rfl
theorem Tryd.ty_sl117 : isSlice Tryd.prog 117 = false := by kernel_rfl
theorem Tryd.ty_b117 : isBool Tryd.prog 117 = false := by kernel_rfl
theorem Tryd.ty_f117_0 : (fieldOf Tryd.prog 117 0).map (fun d => (d.type, d.offset)) = some (12, 0) := by kernel_rfl
theorem Tryd.ty_fo117_0 : ∃ d, fieldOf Tryd.prog 117 0 = some d ∧ d.type = 12 ∧ d.offset = 0 := fieldOf_some Tryd.ty_f117_0
theorem Tryd.ty_fa117_0 (x : AV) (rows : Nat → ARow) : aFieldAddr Tryd.prog 117 x 0 rows = fieldAddrA Tryd.prog 12 0 x rows := aFieldAddr_of Tryd.ty_fo117_0 x rows
theorem Tryd.ty_ff117_0 (x : AV) : aField Tryd.prog 117 x 0 = fieldA Tryd.prog 12 0 x := aField_of Tryd.ty_fo117_0 x
theorem Tryd.ty_f117_1 : (fieldOf Tryd.prog 117 1).map (fun d => (d.type, d.offset)) = some (12, 1) := by kernel_rfl
theorem Tryd.ty_fo117_1 : ∃ d, fieldOf Tryd.prog 117 1 = some d ∧ d.type = 12 ∧ d.offset = 1 := fieldOf_some Tryd.ty_f117_1
theorem Tryd.ty_fa117_1 (x : AV) (rows : Nat → ARow) : aFieldAddr Tryd.prog 117 x 1 rows = fieldAddrA Tryd.prog 12 1 x rows := aFieldAddr_of Tryd.ty_fo117_1 x rows
theorem Tryd.ty_ff117_1 (x : AV) : aField Tryd.prog 117 x 1 = fieldA Tryd.prog 12 1 x := aField_of Tryd.ty_fo117_1 x
theorem Tryd.ty_f117_2 : (fieldOf Tryd.prog 117 2).map (fun d => (d.type, d.offset)) = some (110, 2) := by kernel_rfl
theorem Tryd.ty_fo117_2 : ∃ d, fieldOf Tryd.prog 117 2 = some d ∧ d.type = 110 ∧ d.offset = 2 := fieldOf_some Tryd.ty_f117_2
theorem Tryd.ty_fa117_2 (x : AV) (rows : Nat → ARow) : aFieldAddr Tryd.prog 117 x 2 rows = fieldAddrA Tryd.prog 110 2 x rows := aFieldAddr_of Tryd.ty_fo117_2 x rows
theorem Tryd.ty_ff117_2 (x : AV) : aField Tryd.prog 117 x 2 = fieldA Tryd.prog 110 2 x := aField_of Tryd.ty_fo117_2 x
theorem Tryd.ty_f117_3 : (fieldOf Tryd.prog 117 3).map (fun d => (d.type, d.offset)) = some (111, 3) := by kernel_rfl
theorem Tryd.ty_fo117_3 : ∃ d, fieldOf Tryd.prog 117 3 = some d ∧ d.type = 111 ∧ d.offset = 3 := fieldOf_some Tryd.ty_f117_3
theorem Tryd.ty_fa117_3 (x : AV) (rows : Nat → ARow) : aFieldAddr Tryd.prog 117 x 3 rows = fieldAddrA Tryd.prog 111 3 x rows := aFieldAddr_of Tryd.ty_fo117_3 x rows
theorem Tryd.ty_ff117_3 (x : AV) : aField Tryd.prog 117 x 3 = fieldA Tryd.prog 111 3 x := aField_of Tryd.ty_fo117_3 x
theorem Tryd.ty_f117_4 : (fieldOf Tryd.prog 117 4).map (fun d => (d.type, d.offset)) = some (5, 4) := by kernel_rfl
theorem Tryd.ty_fo117_4 : ∃ d, fieldOf Tryd.prog 117 4 = some d ∧ d.type = 5 ∧ d.offset = 4 := fieldOf_some Tryd.ty_f117_4
theorem Tryd.ty_fa117_4 (x : AV) (rows : Nat → ARow) : aFieldAddr Tryd.prog 117 x 4 rows = fieldAddrA Tryd.prog 5 4 x rows := aFieldAddr_of Tryd.ty_fo117_4 x rows
theorem Tryd.ty_ff117_4 (x : AV) : aField Tryd.prog 117 x 4 = fieldA Tryd.prog 5 4 x := aField_of Tryd.ty_fo117_4 x
theorem Tryd.ty_f117_5 : (fieldOf Tryd.prog 117 5).map (fun d => (d.type, d.offset)) = some (5, 5) := by kernel_rfl
theorem Tryd.ty_fo117_5 : ∃ d, fieldOf Tryd.prog 117 5 = some d ∧ d.type = 5 ∧ d.offset = 5 := fieldOf_some Tryd.ty_f117_5
theorem Tryd.ty_fa117_5 (x : AV) (rows : Nat → ARow) : aFieldAddr Tryd.prog 117 x 5 rows = fieldAddrA Tryd.prog 5 5 x rows := aFieldAddr_of Tryd.ty_fo117_5 x rows
theorem Tryd.ty_ff117_5 (x : AV) : aField Tryd.prog 117 x 5 = fieldA Tryd.prog 5 5 x := aField_of Tryd.ty_fo117_5 x
theorem Tryd.ty_f117_6 : (fieldOf Tryd.prog 117 6).map (fun d => (d.type, d.offset)) = some (112, 6) := by kernel_rfl
theorem Tryd.ty_fo117_6 : ∃ d, fieldOf Tryd.prog 117 6 = some d ∧ d.type = 112 ∧ d.offset = 6 := fieldOf_some Tryd.ty_f117_6
theorem Tryd.ty_fa117_6 (x : AV) (rows : Nat → ARow) : aFieldAddr Tryd.prog 117 x 6 rows = fieldAddrA Tryd.prog 112 6 x rows := aFieldAddr_of Tryd.ty_fo117_6 x rows
theorem Tryd.ty_ff117_6 (x : AV) : aField Tryd.prog 117 x 6 = fieldA Tryd.prog 112 6 x := aField_of Tryd.ty_fo117_6 x
theorem Tryd.ty_f117_7 : (fieldOf Tryd.prog 117 7).map (fun d => (d.type, d.offset)) = some (113, 7) := by kernel_rfl
theorem Tryd.ty_fo117_7 : ∃ d, fieldOf Tryd.prog 117 7 = some d ∧ d.type = 113 ∧ d.offset = 7 := fieldOf_some Tryd.ty_f117_7
theorem Tryd.ty_fa117_7 (x : AV) (rows : Nat → ARow) : aFieldAddr Tryd.prog 117 x 7 rows = fieldAddrA Tryd.prog 113 7 x rows := aFieldAddr_of Tryd.ty_fo117_7 x rows
theorem Tryd.ty_ff117_7 (x : AV) : aField Tryd.prog 117 x 7 = fieldA Tryd.prog 113 7 x := aField_of Tryd.ty_fo117_7 x
theorem Tryd.ty_f117_8 : (fieldOf Tryd.prog 117 8).map (fun d => (d.type, d.offset)) = some (114, 8) := by kernel_rfl
theorem Tryd.ty_fo117_8 : ∃ d, fieldOf Tryd.prog 117 8 = some d ∧ d.type = 114 ∧ d.offset = 8 := fieldOf_some Tryd.ty_f117_8
theorem Tryd.ty_fa117_8 (x : AV) (rows : Nat → ARow) : aFieldAddr Tryd.prog 117 x 8 rows = fieldAddrA Tryd.prog 114 8 x rows := aFieldAddr_of Tryd.ty_fo117_8 x rows
theorem Tryd.ty_ff117_8 (x : AV) : aField Tryd.prog 117 x 8 = fieldA Tryd.prog 114 8 x := aField_of Tryd.ty_fo117_8 x
theorem Tryd.ty_f117_9 : (fieldOf Tryd.prog 117 9).map (fun d => (d.type, d.offset)) = some (115, 9) := by kernel_rfl
theorem Tryd.ty_fo117_9 : ∃ d, fieldOf Tryd.prog 117 9 = some d ∧ d.type = 115 ∧ d.offset = 9 := fieldOf_some Tryd.ty_f117_9
theorem Tryd.ty_fa117_9 (x : AV) (rows : Nat → ARow) : aFieldAddr Tryd.prog 117 x 9 rows = fieldAddrA Tryd.prog 115 9 x rows := aFieldAddr_of Tryd.ty_fo117_9 x rows
theorem Tryd.ty_ff117_9 (x : AV) : aField Tryd.prog 117 x 9 = fieldA Tryd.prog 115 9 x := aField_of Tryd.ty_fo117_9 x
theorem Tryd.ty_f117_10 : (fieldOf Tryd.prog 117 10).map (fun d => (d.type, d.offset)) = some (116, 10) := by kernel_rfl
theorem Tryd.ty_fo117_10 : ∃ d, fieldOf Tryd.prog 117 10 = some d ∧ d.type = 116 ∧ d.offset = 10 := fieldOf_some Tryd.ty_f117_10
theorem Tryd.ty_fa117_10 (x : AV) (rows : Nat → ARow) : aFieldAddr Tryd.prog 117 x 10 rows = fieldAddrA Tryd.prog 116 10 x rows := aFieldAddr_of Tryd.ty_fo117_10 x rows
theorem Tryd.ty_ff117_10 (x : AV) : aField Tryd.prog 117 x 10 = fieldA Tryd.prog 116 10 x := aField_of Tryd.ty_fo117_10 x
theorem Tryd.ty_bu117 (parts : List (Nat × AV)) : aBuild Tryd.prog 117 parts = (fillA (fun i => ([(0, 1), (1, 1), (2, 1), (3, 1), (4, 1), (5, 1), (6, 1), (7, 1), (8, 1), (9, 1), (10, 1)] : List (Nat × Nat))[i]?) [.int .u64 0, .int .u64 0, .int .u32 0, .int .u8 0, .int .u8 0, .int .u8 0, .int .u8 0, .nilfn, .nilptr, .int .i32 0, .int .i32 0] parts).map .agg := aBuild_struct (by kernel_rfl) (by kernel_rfl)
theorem Tryd.ty_size118 : tsize Tryd.prog 118 = some 11 := by kernel_rfl
theorem Tryd.ty_bytes118 : tbytes Tryd.prog 118 = some 48 := by kernel_rfl
theorem Tryd.ty_agg118 : tagg Tryd.prog 118 = some true := by kernel_rfl
theorem Tryd.ty_zero118 : tzero Tryd.prog 118 = some (.agg [.int .u64 0, .int .u64 0, .int .u32 0, .int .u8 0, .int .u8 0, .int .u8 0, .int .u8 0, .nilfn, .nilptr, .int .i32 0, .int .i32 0]) := by kernel_rfl
theorem Tryd.ty_sl118 : isSlice Tryd.prog 118 = false := by kernel_rfl
theorem Tryd.ty_b118 : isBool Tryd.prog 118 = false := by kernel_rfl
theorem Tryd.ty_f118_0 : (fieldOf Tryd.prog 118 0).map (fun d => (d.type, d.offset)) = some (12, 0) := by kernel_rfl
theorem Tryd.ty_fo118_0 : ∃ d, fieldOf Tryd.prog 118 0 = some d ∧ d.type = 12 ∧ d.offset = 0 := fieldOf_some Tryd.ty_f118_0
theorem Tryd.ty_fa118_0 (x : AV) (rows : Nat → ARow) : aFieldAddr Tryd.prog 118 x 0 rows = fieldAddrA Tryd.prog 12 0 x rows := aFieldAddr_of Tryd.ty_fo118_0 x rows
theorem Tryd.ty_ff118_0 (x : AV) : aField Tryd.prog 118 x 0 = fieldA Tryd.prog 12 0 x := aField_of Tryd.ty_fo118_0 x
theorem Tryd.ty_f118_1 : (fieldOf Tryd.prog 118 1).map (fun d => (d.type, d.offset)) = some (12, 1) := by kernel_rfl
theorem Tryd.ty_fo118_1 : ∃ d, fieldOf Tryd.prog 118 1 = some d ∧ d.type = 12 ∧ d.offset = 1 := fieldOf_some Tryd.ty_f118_1
theorem Tryd.ty_fa118_1 (x : AV) (rows : Nat → ARow) : aFieldAddr Tryd.prog 118 x 1 rows = fieldAddrA Tryd.prog 12 1 x rows := aFieldAddr_of Tryd.ty_fo118_1 x rows
theorem Tryd.ty_ff118_1 (x : AV) : aField Tryd.prog 118 x 1 = fieldA Tryd.prog 12 1 x := aField_of Tryd.ty_fo118_1 x
theorem Tryd.ty_f118_2 : (fieldOf Tryd.prog 118 2).map (fun d => (d.type, d.offset)) = some (110, 2) := by kernel_rfl
theorem Tryd.ty_fo118_2 : ∃ d, fieldOf Tryd.prog 118 2 = some d ∧ d.type = 110 ∧ d.offset = 2 := fieldOf_some Tryd.ty_f118_2
theorem Tryd.ty_fa118_2 (x : AV) (rows : Nat → ARow) : aFieldAddr Tryd.prog 118 x 2 rows = fieldAddrA Tryd.prog 110 2 x rows := aFieldAddr_of Tryd.ty_fo118_2 x rows
theorem Tryd.ty_ff118_2 (x : AV) : aField Tryd.prog 118 x 2 = fieldA Tryd.prog 110 2 x := aField_of Tryd.ty_fo118_2 x
theorem Tryd.ty_f118_3 : (fieldOf Tryd.prog 118 3).map (fun d => (d.type, d.offset)) = some (111, 3) := by kernel_rfl
theorem Tryd.ty_fo118_3 : ∃ d, fieldOf Tryd.prog 118 3 = some d ∧ d.type = 111 ∧ d.offset = 3 := fieldOf_some Tryd.ty_f118_3
theorem Tryd.ty_fa118_3 (x : AV) (rows : Nat → ARow) : aFieldAddr Tryd.prog 118 x 3 rows = fieldAddrA Tryd.prog 111 3 x rows := aFieldAddr_of Tryd.ty_fo118_3 x rows
theorem Tryd.ty_ff118_3 (x : AV) : aField Tryd.prog 118 x 3 = fieldA Tryd.prog 111 3 x := aField_of Tryd.ty_fo118_3 x
theorem Tryd.ty_f118_4 : (fieldOf Tryd.prog 118 4).map (fun d => (d.type, d.offset)) = some (5, 4) := by kernel_rfl
theorem Tryd.ty_fo118_4 : ∃ d, fieldOf Tryd.prog 118 4 = some d ∧ d.type = 5 ∧ d.offset = 4 := fieldOf_some Tryd.ty_f118_4
theorem Tryd.ty_fa118_4 (x : AV) (rows : Nat → ARow) : aFieldAddr Tryd.prog 118 x 4 rows = fieldAddrA Tryd.prog 5 4 x rows := aFieldAddr_of Tryd.ty_fo118_4 x rows
theorem Tryd.ty_ff118_4 (x : AV) : aField Tryd.prog 118 x 4 = fieldA Tryd.prog 5 4 x := aField_of Tryd.ty_fo118_4 x
theorem Tryd.ty_f118_5 : (fieldOf Tryd.prog 118 5).map (fun d => (d.type, d.offset)) = some (5, 5) := by kernel_rfl
theorem Tryd.ty_fo118_5 : ∃ d, fieldOf Tryd.prog 118 5 = some d ∧ d.type = 5 ∧ d.offset = 5 := fieldOf_some Tryd.ty_f118_5
theorem Tryd.ty_fa118_5 (x : AV) (rows : Nat → ARow) : aFieldAddr Tryd.prog 118 x 5 rows = fieldAddrA Tryd.prog 5 5 x rows := aFieldAddr_of Tryd.ty_fo118_5 x rows
theorem Tryd.ty_ff118_5 (x : AV) : aField Tryd.prog 118 x 5 = fieldA Tryd.prog 5 5 x := aField_of Tryd.ty_fo118_5 x
theorem Tryd.ty_f118_6 : (fieldOf Tryd.prog 118 6).map (fun d => (d.type, d.offset)) = some (112, 6) := by kernel_rfl
theorem Tryd.ty_fo118_6 : ∃ d, fieldOf Tryd.prog 118 6 = some d ∧ d.type = 112 ∧ d.offset = 6 := fieldOf_some Tryd.ty_f118_6
theorem Tryd.ty_fa118_6 (x : AV) (rows : Nat → ARow) : aFieldAddr Tryd.prog 118 x 6 rows = fieldAddrA Tryd.prog 112 6 x rows := aFieldAddr_of Tryd.ty_fo118_6 x rows
theorem Tryd.ty_ff118_6 (x : AV) : aField Tryd.prog 118 x 6 = fieldA Tryd.prog 112 6 x := aField_of Tryd.ty_fo118_6 x
theorem Tryd.ty_f118_7 : (fieldOf Tryd.prog 118 7).map (fun d => (d.type, d.offset)) = some (113, 7) := by kernel_rfl
theorem Tryd.ty_fo118_7 : ∃ d, fieldOf Tryd.prog 118 7 = some d ∧ d.type = 113 ∧ d.offset = 7 := fieldOf_some Tryd.ty_f118_7
theorem Tryd.ty_fa118_7 (x : AV) (rows : Nat → ARow) : aFieldAddr Tryd.prog 118 x 7 rows = fieldAddrA Tryd.prog 113 7 x rows := aFieldAddr_of Tryd.ty_fo118_7 x rows
theorem Tryd.ty_ff118_7 (x : AV) : aField Tryd.prog 118 x 7 = fieldA Tryd.prog 113 7 x := aField_of Tryd.ty_fo118_7 x
theorem Tryd.ty_f118_8 : (fieldOf Tryd.prog 118 8).map (fun d => (d.type, d.offset)) = some (114, 8) := by kernel_rfl
theorem Tryd.ty_fo118_8 : ∃ d, fieldOf Tryd.prog 118 8 = some d ∧ d.type = 114 ∧ d.offset = 8 := fieldOf_some Tryd.ty_f118_8
theorem Tryd.ty_fa118_8 (x : AV) (rows : Nat → ARow) : aFieldAddr Tryd.prog 118 x 8 rows = fieldAddrA Tryd.prog 114 8 x rows := aFieldAddr_of Tryd.ty_fo118_8 x rows
theorem Tryd.ty_ff118_8 (x : AV) : aField Tryd.prog 118 x 8 = fieldA Tryd.prog 114 8 x := aField_of Tryd.ty_fo118_8 x
theorem Tryd.ty_f118_9 : (fieldOf Tryd.prog 118 9).map (fun d => (d.type, d.offset)) = some (115, 9) := by kernel_rfl
theorem Tryd.ty_fo118_9 : ∃ d, fieldOf Tryd.prog 118 9 = some d ∧ d.type = 115 ∧ d.offset = 9 := fieldOf_some Tryd.ty_f118_9
theorem Tryd.ty_fa118_9 (x : AV) (rows : Nat → ARow) : aFieldAddr Tryd.prog 118 x 9 rows = fieldAddrA Tryd.prog 115 9 x rows := aFieldAddr_of Tryd.ty_fo118_9 x rows
theorem Tryd.ty_ff118_9 (x : AV) : aField Tryd.prog 118 x 9 = fieldA Tryd.prog 115 9 x := aField_of Tryd.ty_fo118_9 x
theorem Tryd.ty_f118_10 : (fieldOf Tryd.prog 118 10).map (fun d => (d.type, d.offset)) = some (116, 10) := by kernel_rfl
theorem Tryd.ty_fo118_10 : ∃ d, fieldOf Tryd.prog 118 10 = some d ∧ d.type = 116 ∧ d.offset = 10 := fieldOf_some Tryd.ty_f118_10
theorem Tryd.ty_fa118_10 (x : AV) (rows : Nat → ARow) : aFieldAddr Tryd.prog 118 x 10 rows = fieldAddrA Tryd.prog 116 10 x rows := aFieldAddr_of Tryd.ty_fo118_10 x rows
theorem Tryd.ty_ff118_10 (x : AV) : aField Tryd.prog 118 x 10 = fieldA Tryd.prog 116 10 x := aField_of Tryd.ty_fo118_10 x
theorem Tryd.ty_bu118 (parts : List (Nat × AV)) : aBuild Tryd.prog 118 parts = (fillA (fun i => ([(0, 1), (1, 1), (2, 1), (3, 1), (4, 1), (5, 1), (6, 1), (7, 1), (8, 1), (9, 1), (10, 1)] : List (Nat × Nat))[i]?) [.int .u64 0, .int .u64 0, .int .u32 0, .int .u8 0, .int .u8 0, .int .u8 0, .int .u8 0, .nilfn, .nilptr, .int .i32 0, .int .i32 0] parts).map .agg := aBuild_struct (by kernel_rfl) (by kernel_rfl)
theorem Tryd.ty_size119 : tsize Tryd.prog 119 = some 1 := by kernel_rfl
theorem Tryd.ty_bytes119 : tbytes Tryd.prog 119 = some 8 := by kernel_rfl
theorem Tryd.ty_agg119 : tagg Tryd.prog 119 = some false := by kernel_rfl
theorem Tryd.ty_zero119 : tzero Tryd.prog 119 = some (.nilptr) := by kernel_rfl
theorem Tryd.ty_sl119 : isSlice Tryd.prog 119 = false := by kernel_rfl
theorem Tryd.ty_b119 : isBool Tryd.prog 119 = false := by kernel_rfl
/-- All of them, for simp. -/
theorem tyS : type_of% ((And.intro (And.intro (And.intro (And.intro (And.intro (And.intro (And.intro (And.intro (And.intro Tryd.ty_size1 Tryd.ty_agg1) (And.intro Tryd.ty_zero1 (And.intro Tryd.ty_size2 Tryd.ty_bytes2))) (And.intro (And.intro Tryd.ty_agg2 (And.intro Tryd.ty_zero2 Tryd.ty_sl2)) (And.intro Tryd.ty_b2 (And.intro Tryd.ty_u2 Tryd.ty_size3)))) (And.intro (And.intro (And.intro Tryd.ty_bytes3 Tryd.ty_agg3) (And.intro Tryd.ty_zero3 (And.intro Tryd.ty_sl3 Tryd.ty_b3))) (And.intro (And.intro Tryd.ty_u3 (And.intro Tryd.ty_size4 Tryd.ty_bytes4)) (And.intro Tryd.ty_agg4 (And.intro Tryd.ty_zero4 Tryd.ty_sl4))))) (And.intro (And.intro (And.intro (And.intro Tryd.ty_b4 Tryd.ty_size5) (And.intro Tryd.ty_bytes5 (And.intro Tryd.ty_agg5 Tryd.ty_zero5))) (And.intro (And.intro Tryd.ty_sl5 (And.intro Tryd.ty_b5 Tryd.ty_u5)) (And.intro Tryd.ty_size6 (And.intro Tryd.ty_bytes6 Tryd.ty_agg6)))) (And.intro (And.intro (And.intro Tryd.ty_zero6 (And.intro Tryd.ty_sl6 Tryd.ty_b6)) (And.intro Tryd.ty_u6 (And.intro Tryd.ty_size7 Tryd.ty_bytes7))) (And.intro (And.intro Tryd.ty_agg7 (And.intro Tryd.ty_zero7 Tryd.ty_sl7)) (And.intro Tryd.ty_b7 (And.intro Tryd.ty_fa7_0 Tryd.ty_ff7_0)))))) (And.intro (And.intro (And.intro (And.intro (And.intro Tryd.ty_fa7_1 Tryd.ty_ff7_1) (And.intro Tryd.ty_fa7_2 (And.intro Tryd.ty_ff7_2 Tryd.ty_fa7_3))) (And.intro (And.intro Tryd.ty_ff7_3 (And.intro Tryd.ty_bu7 Tryd.ty_size8)) (And.intro Tryd.ty_bytes8 (And.intro Tryd.ty_agg8 Tryd.ty_zero8)))) (And.intro (And.intro (And.intro Tryd.ty_sl8 (And.intro Tryd.ty_b8 Tryd.ty_fa8_0)) (And.intro Tryd.ty_ff8_0 (And.intro Tryd.ty_fa8_1 Tryd.ty_ff8_1))) (And.intro (And.intro Tryd.ty_fa8_2 (And.intro Tryd.ty_ff8_2 Tryd.ty_fa8_3)) (And.intro Tryd.ty_ff8_3 (And.intro Tryd.ty_bu8 Tryd.ty_size9))))) (And.intro (And.intro (And.intro (And.intro Tryd.ty_bytes9 Tryd.ty_agg9) (And.intro Tryd.ty_zero9 (And.intro Tryd.ty_sl9 Tryd.ty_ni9))) (And.intro (And.intro Tryd.ty_b9 (And.intro Tryd.ty_u9 Tryd.ty_size10)) (And.intro Tryd.ty_bytes10 (And.intro Tryd.ty_agg10 Tryd.ty_zero10)))) (And.intro (And.intro (And.intro Tryd.ty_sl10 (And.intro Tryd.ty_ni10 Tryd.ty_b10)) (And.intro Tryd.ty_u10 (And.intro Tryd.ty_size11 Tryd.ty_bytes11))) (And.intro (And.intro Tryd.ty_agg11 (And.intro Tryd.ty_zero11 Tryd.ty_sl11)) (And.intro Tryd.ty_ni11 (And.intro Tryd.ty_b11 Tryd.ty_u11))))))) (And.intro (And.intro (And.intro (And.intro (And.intro (And.intro Tryd.ty_size12 Tryd.ty_bytes12) (And.intro Tryd.ty_agg12 (And.intro Tryd.ty_zero12 Tryd.ty_sl12))) (And.intro (And.intro Tryd.ty_b12 (And.intro Tryd.ty_u12 Tryd.ty_size13)) (And.intro Tryd.ty_bytes13 (And.intro Tryd.ty_agg13 Tryd.ty_zero13)))) (And.intro (And.intro (And.intro Tryd.ty_sl13 (And.intro Tryd.ty_b13 Tryd.ty_fa13_0)) (And.intro Tryd.ty_ff13_0 (And.intro Tryd.ty_fa13_1 Tryd.ty_ff13_1))) (And.intro (And.intro Tryd.ty_bu13 (And.intro Tryd.ty_size14 Tryd.ty_bytes14)) (And.intro Tryd.ty_agg14 (And.intro Tryd.ty_zero14 Tryd.ty_sl14))))) (And.intro (And.intro (And.intro (And.intro Tryd.ty_b14 Tryd.ty_fa14_0) (And.intro Tryd.ty_ff14_0 (And.intro Tryd.ty_fa14_1 Tryd.ty_ff14_1))) (And.intro (And.intro Tryd.ty_bu14 (And.intro Tryd.ty_size15 Tryd.ty_bytes15)) (And.intro Tryd.ty_agg15 (And.intro Tryd.ty_zero15 Tryd.ty_sl15)))) (And.intro (And.intro (And.intro Tryd.ty_b15 (And.intro Tryd.ty_size16 Tryd.ty_bytes16)) (And.intro Tryd.ty_agg16 (And.intro Tryd.ty_zero16 Tryd.ty_sl16))) (And.intro (And.intro Tryd.ty_b16 (And.intro Tryd.ty_size17 Tryd.ty_bytes17)) (And.intro Tryd.ty_agg17 (And.intro Tryd.ty_zero17 Tryd.ty_sl17)))))) (And.intro (And.intro (And.intro (And.intro (And.intro Tryd.ty_b17 Tryd.ty_size18) (And.intro Tryd.ty_bytes18 (And.intro Tryd.ty_agg18 Tryd.ty_zero18))) (And.intro (And.intro Tryd.ty_sl18 (And.intro Tryd.ty_b18 Tryd.ty_fa18_0)) (And.intro Tryd.ty_ff18_0 (And.intro Tryd.ty_bu18 Tryd.ty_size19)))) (And.intro (And.intro (And.intro Tryd.ty_bytes19 (And.intro Tryd.ty_agg19 Tryd.ty_zero19)) (And.intro Tryd.ty_sl19 (And.intro Tryd.ty_b19 Tryd.ty_fa19_0))) (And.intro (And.intro Tryd.ty_ff19_0 (And.intro Tryd.ty_bu19 Tryd.ty_size21)) (And.intro Tryd.ty_bytes21 (And.intro Tryd.ty_agg21 Tryd.ty_zero21))))) (And.intro (And.intro (And.intro (And.intro Tryd.ty_sl21 Tryd.ty_b21) (And.intro Tryd.ty_u21 (And.intro Tryd.ty_size22 Tryd.ty_bytes22))) (And.intro (And.intro Tryd.ty_agg22 (And.intro Tryd.ty_zero22 Tryd.ty_elem22)) (And.intro Tryd.ty_sl22 (And.intro Tryd.ty_ni22 Tryd.ty_b22)))) (And.intro (And.intro (And.intro Tryd.ty_u22 (And.intro Tryd.ty_size23 Tryd.ty_agg23)) (And.intro Tryd.ty_zero23 (And.intro Tryd.ty_size24 Tryd.ty_bytes24))) (And.intro (And.intro Tryd.ty_agg24 (And.intro Tryd.ty_zero24 Tryd.ty_elem24)) (And.intro Tryd.ty_sl24 (And.intro Tryd.ty_ni24 Tryd.ty_b24)))))))) (And.intro (And.intro (And.intro (And.intro (And.intro (And.intro (And.intro Tryd.ty_u24 Tryd.ty_size25) (And.intro Tryd.ty_bytes25 (And.intro Tryd.ty_agg25 Tryd.ty_zero25))) (And.intro (And.intro Tryd.ty_sl25 (And.intro Tryd.ty_b25 Tryd.ty_fa25_0)) (And.intro Tryd.ty_ff25_0 (And.intro Tryd.ty_fa25_1 Tryd.ty_ff25_1)))) (And.intro (And.intro (And.intro Tryd.ty_fa25_2 Tryd.ty_ff25_2) (And.intro Tryd.ty_fa25_3 (And.intro Tryd.ty_ff25_3 Tryd.ty_bu25))) (And.intro (And.intro Tryd.ty_size26 (And.intro Tryd.ty_bytes26 Tryd.ty_agg26)) (And.intro Tryd.ty_zero26 (And.intro Tryd.ty_sl26 Tryd.ty_b26))))) (And.intro (And.intro (And.intro (And.intro Tryd.ty_fa26_0 Tryd.ty_ff26_0) (And.intro Tryd.ty_fa26_1 (And.intro Tryd.ty_ff26_1 Tryd.ty_fa26_2))) (And.intro (And.intro Tryd.ty_ff26_2 (And.intro Tryd.ty_fa26_3 Tryd.ty_ff26_3)) (And.intro Tryd.ty_bu26 (And.intro Tryd.ty_size27 Tryd.ty_bytes27)))) (And.intro (And.intro (And.intro Tryd.ty_agg27 (And.intro Tryd.ty_zero27 Tryd.ty_sl27)) (And.intro Tryd.ty_b27 (And.intro Tryd.ty_fa27_0 Tryd.ty_ff27_0))) (And.intro (And.intro Tryd.ty_fa27_1 (And.intro Tryd.ty_ff27_1 Tryd.ty_fa27_2)) (And.intro Tryd.ty_ff27_2 (And.intro Tryd.ty_fa27_3 Tryd.ty_ff27_3)))))) (And.intro (And.intro (And.intro (And.intro (And.intro Tryd.ty_bu27 Tryd.ty_size28) (And.intro Tryd.ty_bytes28 (And.intro Tryd.ty_agg28 Tryd.ty_zero28))) (And.intro (And.intro Tryd.ty_sl28 (And.intro Tryd.ty_b28 Tryd.ty_fa28_0)) (And.intro Tryd.ty_ff28_0 (And.intro Tryd.ty_fa28_1 Tryd.ty_ff28_1)))) (And.intro (And.intro (And.intro Tryd.ty_fa28_2 (And.intro Tryd.ty_ff28_2 Tryd.ty_fa28_3)) (And.intro Tryd.ty_ff28_3 (And.intro Tryd.ty_bu28 Tryd.ty_size29))) (And.intro (And.intro Tryd.ty_agg29 (And.intro Tryd.ty_zero29 Tryd.ty_size30)) (And.intro Tryd.ty_agg30 (And.intro Tryd.ty_zero30 Tryd.ty_size31))))) (And.intro (And.intro (And.intro (And.intro Tryd.ty_agg31 Tryd.ty_zero31) (And.intro Tryd.ty_size32 (And.intro Tryd.ty_agg32 Tryd.ty_zero32))) (And.intro (And.intro Tryd.ty_size33 (And.intro Tryd.ty_agg33 Tryd.ty_zero33)) (And.intro Tryd.ty_size34 (And.intro Tryd.ty_agg34 Tryd.ty_zero34)))) (And.intro (And.intro (And.intro Tryd.ty_size35 (And.intro Tryd.ty_bytes35 Tryd.ty_agg35)) (And.intro Tryd.ty_zero35 (And.intro Tryd.ty_sl35 Tryd.ty_b35))) (And.intro (And.intro Tryd.ty_fa35_0 (And.intro Tryd.ty_ff35_0 Tryd.ty_fa35_1)) (And.intro Tryd.ty_ff35_1 (And.intro Tryd.ty_fa35_2 Tryd.ty_ff35_2))))))) (And.intro (And.intro (And.intro (And.intro (And.intro (And.intro Tryd.ty_fa35_3 Tryd.ty_ff35_3) (And.intro Tryd.ty_fa35_4 (And.intro Tryd.ty_ff35_4 Tryd.ty_bu35))) (And.intro (And.intro Tryd.ty_size36 (And.intro Tryd.ty_bytes36 Tryd.ty_agg36)) (And.intro Tryd.ty_zero36 (And.intro Tryd.ty_sl36 Tryd.ty_b36)))) (And.intro (And.intro (And.intro Tryd.ty_u36 (And.intro Tryd.ty_bu36 Tryd.ty_size37)) (And.intro Tryd.ty_agg37 (And.intro Tryd.ty_zero37 Tryd.ty_size38))) (And.intro (And.intro Tryd.ty_agg38 (And.intro Tryd.ty_zero38 Tryd.ty_size39)) (And.intro Tryd.ty_agg39 (And.intro Tryd.ty_zero39 Tryd.ty_size40))))) (And.intro (And.intro (And.intro (And.intro Tryd.ty_agg40 Tryd.ty_zero40) (And.intro Tryd.ty_size41 (And.intro Tryd.ty_agg41 Tryd.ty_zero41))) (And.intro (And.intro Tryd.ty_size42 (And.intro Tryd.ty_agg42 Tryd.ty_zero42)) (And.intro Tryd.ty_size43 (And.intro Tryd.ty_agg43 Tryd.ty_zero43)))) (And.intro (And.intro (And.intro Tryd.ty_size44 (And.intro Tryd.ty_agg44 Tryd.ty_zero44)) (And.intro Tryd.ty_size45 (And.intro Tryd.ty_agg45 Tryd.ty_zero45))) (And.intro (And.intro Tryd.ty_size46 (And.intro Tryd.ty_agg46 Tryd.ty_zero46)) (And.intro Tryd.ty_size47 (And.intro Tryd.ty_bytes47 Tryd.ty_agg47)))))) (And.intro (And.intro (And.intro (And.intro (And.intro Tryd.ty_zero47 Tryd.ty_sl47) (And.intro Tryd.ty_b47 (And.intro Tryd.ty_u47 Tryd.ty_bu47))) (And.intro (And.intro Tryd.ty_size48 (And.intro Tryd.ty_agg48 Tryd.ty_zero48)) (And.intro Tryd.ty_size49 (And.intro Tryd.ty_agg49 Tryd.ty_zero49)))) (And.intro (And.intro (And.intro Tryd.ty_size50 (And.intro Tryd.ty_agg50 Tryd.ty_zero50)) (And.intro Tryd.ty_size52 (And.intro Tryd.ty_agg52 Tryd.ty_zero52))) (And.intro (And.intro Tryd.ty_size53 (And.intro Tryd.ty_agg53 Tryd.ty_zero53)) (And.intro Tryd.ty_size55 (And.intro Tryd.ty_agg55 Tryd.ty_zero55))))) (And.intro (And.intro (And.intro (And.intro Tryd.ty_size56 Tryd.ty_bytes56) (And.intro Tryd.ty_agg56 (And.intro Tryd.ty_zero56 Tryd.ty_elem56))) (And.intro (And.intro Tryd.ty_sl56 (And.intro Tryd.ty_ni56 Tryd.ty_b56)) (And.intro Tryd.ty_u56 (And.intro Tryd.ty_size57 Tryd.ty_bytes57)))) (And.intro (And.intro (And.intro Tryd.ty_agg57 (And.intro Tryd.ty_zero57 Tryd.ty_sl57)) (And.intro Tryd.ty_b57 (And.intro Tryd.ty_fa57_0 Tryd.ty_ff57_0))) (And.intro (And.intro Tryd.ty_fa57_1 (And.intro Tryd.ty_ff57_1 Tryd.ty_bu57)) (And.intro Tryd.ty_size58 (And.intro Tryd.ty_bytes58 Tryd.ty_agg58))))))))) (And.intro (And.intro (And.intro (And.intro (And.intro (And.intro (And.intro (And.intro Tryd.ty_zero58 Tryd.ty_sl58) (And.intro Tryd.ty_b58 (And.intro Tryd.ty_fa58_0 Tryd.ty_ff58_0))) (And.intro (And.intro Tryd.ty_fa58_1 (And.intro Tryd.ty_ff58_1 Tryd.ty_bu58)) (And.intro Tryd.ty_size59 (And.intro Tryd.ty_bytes59 Tryd.ty_agg59)))) (And.intro (And.intro (And.intro Tryd.ty_zero59 Tryd.ty_elem59) (And.intro Tryd.ty_sl59 (And.intro Tryd.ty_ni59 Tryd.ty_b59))) (And.intro (And.intro Tryd.ty_u59 (And.intro Tryd.ty_size60 Tryd.ty_agg60)) (And.intro Tryd.ty_zero60 (And.intro Tryd.ty_size61 Tryd.ty_agg61))))) (And.intro (And.intro (And.intro (And.intro Tryd.ty_zero61 Tryd.ty_size62) (And.intro Tryd.ty_agg62 (And.intro Tryd.ty_zero62 Tryd.ty_size63))) (And.intro (And.intro Tryd.ty_agg63 (And.intro Tryd.ty_zero63 Tryd.ty_size64)) (And.intro Tryd.ty_bytes64 (And.intro Tryd.ty_agg64 Tryd.ty_zero64)))) (And.intro (And.intro (And.intro Tryd.ty_sl64 (And.intro Tryd.ty_b64 Tryd.ty_u64)) (And.intro Tryd.ty_size65 (And.intro Tryd.ty_bytes65 Tryd.ty_agg65))) (And.intro (And.intro Tryd.ty_zero65 (And.intro Tryd.ty_sl65 Tryd.ty_b65)) (And.intro Tryd.ty_u65 (And.intro Tryd.ty_size67 Tryd.ty_agg67)))))) (And.intro (And.intro (And.intro (And.intro (And.intro Tryd.ty_zero67 Tryd.ty_size68) (And.intro Tryd.ty_agg68 (And.intro Tryd.ty_zero68 Tryd.ty_size69))) (And.intro (And.intro Tryd.ty_bytes69 (And.intro Tryd.ty_agg69 Tryd.ty_zero69)) (And.intro Tryd.ty_sl69 (And.intro Tryd.ty_b69 Tryd.ty_size70)))) (And.intro (And.intro (And.intro Tryd.ty_bytes70 (And.intro Tryd.ty_agg70 Tryd.ty_zero70)) (And.intro Tryd.ty_sl70 (And.intro Tryd.ty_b70 Tryd.ty_map70))) (And.intro (And.intro Tryd.ty_u70 (And.intro Tryd.ty_size71 Tryd.ty_bytes71)) (And.intro Tryd.ty_agg71 (And.intro Tryd.ty_zero71 Tryd.ty_sl71))))) (And.intro (And.intro (And.intro (And.intro Tryd.ty_b71 Tryd.ty_map71) (And.intro Tryd.ty_u71 (And.intro Tryd.ty_size72 Tryd.ty_agg72))) (And.intro (And.intro Tryd.ty_zero72 (And.intro Tryd.ty_size73 Tryd.ty_bytes73)) (And.intro Tryd.ty_agg73 (And.intro Tryd.ty_zero73 Tryd.ty_elem73)))) (And.intro (And.intro (And.intro Tryd.ty_sl73 (And.intro Tryd.ty_ni73 Tryd.ty_b73)) (And.intro Tryd.ty_u73 (And.intro Tryd.ty_size74 Tryd.ty_agg74))) (And.intro (And.intro Tryd.ty_zero74 (And.intro Tryd.ty_size75 Tryd.ty_agg75)) (And.intro Tryd.ty_zero75 (And.intro Tryd.ty_size76 Tryd.ty_agg76))))))) (And.intro (And.intro (And.intro (And.intro (And.intro (And.intro Tryd.ty_zero76 Tryd.ty_size77) (And.intro Tryd.ty_agg77 (And.intro Tryd.ty_zero77 Tryd.ty_size78))) (And.intro (And.intro Tryd.ty_agg78 (And.intro Tryd.ty_zero78 Tryd.ty_size79)) (And.intro Tryd.ty_agg79 (And.intro Tryd.ty_zero79 Tryd.ty_size81)))) (And.intro (And.intro (And.intro Tryd.ty_agg81 (And.intro Tryd.ty_zero81 Tryd.ty_size82)) (And.intro Tryd.ty_agg82 (And.intro Tryd.ty_zero82 Tryd.ty_size83))) (And.intro (And.intro Tryd.ty_agg83 (And.intro Tryd.ty_zero83 Tryd.ty_size84)) (And.intro Tryd.ty_agg84 (And.intro Tryd.ty_zero84 Tryd.ty_size85))))) (And.intro (And.intro (And.intro (And.intro Tryd.ty_agg85 Tryd.ty_zero85) (And.intro Tryd.ty_size86 (And.intro Tryd.ty_agg86 Tryd.ty_zero86))) (And.intro (And.intro Tryd.ty_size87 (And.intro Tryd.ty_agg87 Tryd.ty_zero87)) (And.intro Tryd.ty_size88 (And.intro Tryd.ty_agg88 Tryd.ty_zero88)))) (And.intro (And.intro (And.intro Tryd.ty_size89 (And.intro Tryd.ty_agg89 Tryd.ty_zero89)) (And.intro Tryd.ty_size90 (And.intro Tryd.ty_agg90 Tryd.ty_zero90))) (And.intro (And.intro Tryd.ty_size91 (And.intro Tryd.ty_agg91 Tryd.ty_zero91)) (And.intro Tryd.ty_size92 (And.intro Tryd.ty_agg92 Tryd.ty_zero92)))))) (And.intro (And.intro (And.intro (And.intro (And.intro Tryd.ty_size93 Tryd.ty_agg93) (And.intro Tryd.ty_zero93 (And.intro Tryd.ty_size94 Tryd.ty_bytes94))) (And.intro (And.intro Tryd.ty_agg94 (And.intro Tryd.ty_zero94 Tryd.ty_sl94)) (And.intro Tryd.ty_b94 (And.intro Tryd.ty_u94 Tryd.ty_size95)))) (And.intro (And.intro (And.intro Tryd.ty_bytes95 (And.intro Tryd.ty_agg95 Tryd.ty_zero95)) (And.intro Tryd.ty_sl95 (And.intro Tryd.ty_b95 Tryd.ty_u95))) (And.intro (And.intro Tryd.ty_size96 (And.intro Tryd.ty_bytes96 Tryd.ty_agg96)) (And.intro Tryd.ty_zero96 (And.intro Tryd.ty_sl96 Tryd.ty_b96))))) (And.intro (And.intro (And.intro (And.intro Tryd.ty_fa96_0 Tryd.ty_ff96_0) (And.intro Tryd.ty_fa96_1 (And.intro Tryd.ty_ff96_1 Tryd.ty_bu96))) (And.intro (And.intro Tryd.ty_size97 (And.intro Tryd.ty_bytes97 Tryd.ty_agg97)) (And.intro Tryd.ty_zero97 (And.intro Tryd.ty_sl97 Tryd.ty_b97)))) (And.intro (And.intro (And.intro Tryd.ty_fa97_0 (And.intro Tryd.ty_ff97_0 Tryd.ty_fa97_1)) (And.intro Tryd.ty_ff97_1 (And.intro Tryd.ty_bu97 Tryd.ty_size98))) (And.intro (And.intro Tryd.ty_bytes98 (And.intro Tryd.ty_agg98 Tryd.ty_zero98)) (And.intro Tryd.ty_sl98 (And.intro Tryd.ty_b98 Tryd.ty_u98)))))))) (And.intro (And.intro (And.intro (And.intro (And.intro (And.intro (And.intro Tryd.ty_bu98 Tryd.ty_size99) (And.intro Tryd.ty_agg99 (And.intro Tryd.ty_zero99 Tryd.ty_size100))) (And.intro (And.intro Tryd.ty_agg100 (And.intro Tryd.ty_zero100 Tryd.ty_size101)) (And.intro Tryd.ty_agg101 (And.intro Tryd.ty_zero101 Tryd.ty_size102)))) (And.intro (And.intro (And.intro Tryd.ty_agg102 Tryd.ty_zero102) (And.intro Tryd.ty_size103 (And.intro Tryd.ty_agg103 Tryd.ty_zero103))) (And.intro (And.intro Tryd.ty_size104 (And.intro Tryd.ty_bytes104 Tryd.ty_agg104)) (And.intro Tryd.ty_zero104 (And.intro Tryd.ty_sl104 Tryd.ty_b104))))) (And.intro (And.intro (And.intro (And.intro Tryd.ty_fa104_0 Tryd.ty_ff104_0) (And.intro Tryd.ty_fa104_1 (And.intro Tryd.ty_ff104_1 Tryd.ty_fa104_2))) (And.intro (And.intro Tryd.ty_ff104_2 (And.intro Tryd.ty_fa104_3 Tryd.ty_ff104_3)) (And.intro Tryd.ty_bu104 (And.intro Tryd.ty_size105 Tryd.ty_bytes105)))) (And.intro (And.intro (And.intro Tryd.ty_agg105 (And.intro Tryd.ty_zero105 Tryd.ty_sl105)) (And.intro Tryd.ty_b105 (And.intro Tryd.ty_fa105_0 Tryd.ty_ff105_0))) (And.intro (And.intro Tryd.ty_fa105_1 (And.intro Tryd.ty_ff105_1 Tryd.ty_fa105_2)) (And.intro Tryd.ty_ff105_2 (And.intro Tryd.ty_fa105_3 Tryd.ty_ff105_3)))))) (And.intro (And.intro (And.intro (And.intro (And.intro Tryd.ty_bu105 Tryd.ty_size106) (And.intro Tryd.ty_bytes106 (And.intro Tryd.ty_agg106 Tryd.ty_zero106))) (And.intro (And.intro Tryd.ty_sl106 (And.intro Tryd.ty_b106 Tryd.ty_u106)) (And.intro Tryd.ty_bu106 (And.intro Tryd.ty_size107 Tryd.ty_bytes107)))) (And.intro (And.intro (And.intro Tryd.ty_agg107 (And.intro Tryd.ty_zero107 Tryd.ty_sl107)) (And.intro Tryd.ty_b107 (And.intro Tryd.ty_fa107_0 Tryd.ty_ff107_0))) (And.intro (And.intro Tryd.ty_bu107 (And.intro Tryd.ty_size108 Tryd.ty_bytes108)) (And.intro Tryd.ty_agg108 (And.intro Tryd.ty_zero108 Tryd.ty_sl108))))) (And.intro (And.intro (And.intro (And.intro Tryd.ty_b108 Tryd.ty_fa108_0) (And.intro Tryd.ty_ff108_0 (And.intro Tryd.ty_bu108 Tryd.ty_size109))) (And.intro (And.intro Tryd.ty_agg109 (And.intro Tryd.ty_zero109 Tryd.ty_size110)) (And.intro Tryd.ty_bytes110 (And.intro Tryd.ty_agg110 Tryd.ty_zero110)))) (And.intro (And.intro (And.intro Tryd.ty_sl110 (And.intro Tryd.ty_b110 Tryd.ty_u110)) (And.intro Tryd.ty_size111 (And.intro Tryd.ty_bytes111 Tryd.ty_agg111))) (And.intro (And.intro Tryd.ty_zero111 (And.intro Tryd.ty_sl111 Tryd.ty_b111)) (And.intro Tryd.ty_u111 (And.intro Tryd.ty_size112 Tryd.ty_bytes112))))))) (And.intro (And.intro (And.intro (And.intro (And.intro (And.intro Tryd.ty_agg112 Tryd.ty_zero112) (And.intro Tryd.ty_sl112 (And.intro Tryd.ty_b112 Tryd.ty_u112))) (And.intro (And.intro Tryd.ty_size113 (And.intro Tryd.ty_agg113 Tryd.ty_zero113)) (And.intro Tryd.ty_size114 (And.intro Tryd.ty_bytes114 Tryd.ty_agg114)))) (And.intro (And.intro (And.intro Tryd.ty_zero114 (And.intro Tryd.ty_sl114 Tryd.ty_b114)) (And.intro Tryd.ty_size115 (And.intro Tryd.ty_bytes115 Tryd.ty_agg115))) (And.intro (And.intro Tryd.ty_zero115 (And.intro Tryd.ty_sl115 Tryd.ty_b115)) (And.intro Tryd.ty_u115 (And.intro Tryd.ty_size116 Tryd.ty_bytes116))))) (And.intro (And.intro (And.intro (And.intro Tryd.ty_agg116 Tryd.ty_zero116) (And.intro Tryd.ty_sl116 (And.intro Tryd.ty_b116 Tryd.ty_u116))) (And.intro (And.intro Tryd.ty_size117 (And.intro Tryd.ty_bytes117 Tryd.ty_agg117)) (And.intro Tryd.ty_zero117 (And.intro Tryd.ty_sl117 Tryd.ty_b117)))) (And.intro (And.intro (And.intro Tryd.ty_fa117_0 (And.intro Tryd.ty_ff117_0 Tryd.ty_fa117_1)) (And.intro Tryd.ty_ff117_1 (And.intro Tryd.ty_fa117_2 Tryd.ty_ff117_2))) (And.intro (And.intro Tryd.ty_fa117_3 (And.intro Tryd.ty_ff117_3 Tryd.ty_fa117_4)) (And.intro Tryd.ty_ff117_4 (And.intro Tryd.ty_fa117_5 Tryd.ty_ff117_5)))))) (And.intro (And.intro (And.intro (And.intro (And.intro Tryd.ty_fa117_6 Tryd.ty_ff117_6) (And.intro Tryd.ty_fa117_7 (And.intro Tryd.ty_ff117_7 Tryd.ty_fa117_8))) (And.intro (And.intro Tryd.ty_ff117_8 (And.intro Tryd.ty_fa117_9 Tryd.ty_ff117_9)) (And.intro Tryd.ty_fa117_10 (And.intro Tryd.ty_ff117_10 Tryd.ty_bu117)))) (And.intro (And.intro (And.intro Tryd.ty_size118 (And.intro Tryd.ty_bytes118 Tryd.ty_agg118)) (And.intro Tryd.ty_zero118 (And.intro Tryd.ty_sl118 Tryd.ty_b118))) (And.intro (And.intro Tryd.ty_fa118_0 (And.intro Tryd.ty_ff118_0 Tryd.ty_fa118_1)) (And.intro Tryd.ty_ff118_1 (And.intro Tryd.ty_fa118_2 Tryd.ty_ff118_2))))) (And.intro (And.intro (And.intro (And.intro Tryd.ty_fa118_3 Tryd.ty_ff118_3) (And.intro Tryd.ty_fa118_4 (And.intro Tryd.ty_ff118_4 Tryd.ty_fa118_5))) (And.intro (And.intro Tryd.ty_ff118_5 (And.intro Tryd.ty_fa118_6 Tryd.ty_ff118_6)) (And.intro Tryd.ty_fa118_7 (And.intro Tryd.ty_ff118_7 Tryd.ty_fa118_8)))) (And.intro (And.intro (And.intro Tryd.ty_ff118_8 (And.intro Tryd.ty_fa118_9 Tryd.ty_ff118_9)) (And.intro Tryd.ty_fa118_10 (And.intro Tryd.ty_ff118_10 Tryd.ty_bu118))) (And.intro (And.intro Tryd.ty_size119 (And.intro Tryd.ty_bytes119 Tryd.ty_agg119)) (And.intro Tryd.ty_zero119 (And.intro Tryd.ty_sl119 Tryd.ty_b119))))))))))) := (And.intro (And.intro (And.intro (And.intro (And.intro (And.intro (And.intro (And.intro (And.intro Tryd.ty_size1 Tryd.ty_agg1) (And.intro Tryd.ty_zero1 (And.intro Tryd.ty_size2 Tryd.ty_bytes2))) (And.intro (And.intro Tryd.ty_agg2 (And.intro Tryd.ty_zero2 Tryd.ty_sl2)) (And.intro Tryd.ty_b2 (And.intro Tryd.ty_u2 Tryd.ty_size3)))) (And.intro (And.intro (And.intro Tryd.ty_bytes3 Tryd.ty_agg3) (And.intro Tryd.ty_zero3 (And.intro Tryd.ty_sl3 Tryd.ty_b3))) (And.intro (And.intro Tryd.ty_u3 (And.intro Tryd.ty_size4 Tryd.ty_bytes4)) (And.intro Tryd.ty_agg4 (And.intro Tryd.ty_zero4 Tryd.ty_sl4))))) (And.intro (And.intro (And.intro (And.intro Tryd.ty_b4 Tryd.ty_size5) (And.intro Tryd.ty_bytes5 (And.intro Tryd.ty_agg5 Tryd.ty_zero5))) (And.intro (And.intro Tryd.ty_sl5 (And.intro Tryd.ty_b5 Tryd.ty_u5)) (And.intro Tryd.ty_size6 (And.intro Tryd.ty_bytes6 Tryd.ty_agg6)))) (And.intro (And.intro (And.intro Tryd.ty_zero6 (And.intro Tryd.ty_sl6 Tryd.ty_b6)) (And.intro Tryd.ty_u6 (And.intro Tryd.ty_size7 Tryd.ty_bytes7))) (And.intro (And.intro Tryd.ty_agg7 (And.intro Tryd.ty_zero7 Tryd.ty_sl7)) (And.intro Tryd.ty_b7 (And.intro Tryd.ty_fa7_0 Tryd.ty_ff7_0)))))) (And.intro (And.intro (And.intro (And.intro (And.intro Tryd.ty_fa7_1 Tryd.ty_ff7_1) (And.intro Tryd.ty_fa7_2 (And.intro Tryd.ty_ff7_2 Tryd.ty_fa7_3))) (And.intro (And.intro Tryd.ty_ff7_3 (And.intro Tryd.ty_bu7 Tryd.ty_size8)) (And.intro Tryd.ty_bytes8 (And.intro Tryd.ty_agg8 Tryd.ty_zero8)))) (And.intro (And.intro (And.intro Tryd.ty_sl8 (And.intro Tryd.ty_b8 Tryd.ty_fa8_0)) (And.intro Tryd.ty_ff8_0 (And.intro Tryd.ty_fa8_1 Tryd.ty_ff8_1))) (And.intro (And.intro Tryd.ty_fa8_2 (And.intro Tryd.ty_ff8_2 Tryd.ty_fa8_3)) (And.intro Tryd.ty_ff8_3 (And.intro Tryd.ty_bu8 Tryd.ty_size9))))) (And.intro (And.intro (And.intro (And.intro Tryd.ty_bytes9 Tryd.ty_agg9) (And.intro Tryd.ty_zero9 (And.intro Tryd.ty_sl9 Tryd.ty_ni9))) (And.intro (And.intro Tryd.ty_b9 (And.intro Tryd.ty_u9 Tryd.ty_size10)) (And.intro Tryd.ty_bytes10 (And.intro Tryd.ty_agg10 Tryd.ty_zero10)))) (And.intro (And.intro (And.intro Tryd.ty_sl10 (And.intro Tryd.ty_ni10 Tryd.ty_b10)) (And.intro Tryd.ty_u10 (And.intro Tryd.ty_size11 Tryd.ty_bytes11))) (And.intro (And.intro Tryd.ty_agg11 (And.intro Tryd.ty_zero11 Tryd.ty_sl11)) (And.intro Tryd.ty_ni11 (And.intro Tryd.ty_b11 Tryd.ty_u11))))))) (And.intro (And.intro (And.intro (And.intro (And.intro (And.intro Tryd.ty_size12 Tryd.ty_bytes12) (And.intro Tryd.ty_agg12 (And.intro Tryd.ty_zero12 Tryd.ty_sl12))) (And.intro (And.intro Tryd.ty_b12 (And.intro Tryd.ty_u12 Tryd.ty_size13)) (And.intro Tryd.ty_bytes13 (And.intro Tryd.ty_agg13 Tryd.ty_zero13)))) (And.intro (And.intro (And.intro Tryd.ty_sl13 (And.intro Tryd.ty_b13 Tryd.ty_fa13_0)) (And.intro Tryd.ty_ff13_0 (And.intro Tryd.ty_fa13_1 Tryd.ty_ff13_1))) (And.intro (And.intro Tryd.ty_bu13 (And.intro Tryd.ty_size14 Tryd.ty_bytes14)) (And.intro Tryd.ty_agg14 (And.intro Tryd.ty_zero14 Tryd.ty_sl14))))) (And.intro (And.intro (And.intro (And.intro Tryd.ty_b14 Tryd.ty_fa14_0) (And.intro Tryd.ty_ff14_0 (And.intro Tryd.ty_fa14_1 Tryd.ty_ff14_1))) (And.intro (And.intro Tryd.ty_bu14 (And.intro Tryd.ty_size15 Tryd.ty_bytes15)) (And.intro Tryd.ty_agg15 (And.intro Tryd.ty_zero15 Tryd.ty_sl15)))) (And.intro (And.intro (And.intro Tryd.ty_b15 (And.intro Tryd.ty_size16 Tryd.ty_bytes16)) (And.intro Tryd.ty_agg16 (And.intro Tryd.ty_zero16 Tryd.ty_sl16))) (And.intro (And.intro Tryd.ty_b16 (And.intro Tryd.ty_size17 Tryd.ty_bytes17)) (And.intro Tryd.ty_agg17 (And.intro Tryd.ty_zero17 Tryd.ty_sl17)))))) (And.intro (And.intro (And.intro (And.intro (And.intro Tryd.ty_b17 Tryd.ty_size18) (And.intro Tryd.ty_bytes18 (And.intro Tryd.ty_agg18 Tryd.ty_zero18))) (And.intro (And.intro Tryd.ty_sl18 (And.intro Tryd.ty_b18 Tryd.ty_fa18_0)) (And.intro Tryd.ty_ff18_0 (And.intro Tryd.ty_bu18 Tryd.ty_size19)))) (And.intro (And.intro (And.intro Tryd.ty_bytes19 (And.intro Tryd.ty_agg19 Tryd.ty_zero19)) (And.intro Tryd.ty_sl19 (And.intro Tryd.ty_b19 Tryd.ty_fa19_0))) (And.intro (And.intro Tryd.ty_ff19_0 (And.intro Tryd.ty_bu19 Tryd.ty_size21)) (And.intro Tryd.ty_bytes21 (And.intro Tryd.ty_agg21 Tryd.ty_zero21))))) (And.intro (And.intro (And.intro (And.intro Tryd.ty_sl21 Tryd.ty_b21) (And.intro Tryd.ty_u21 (And.intro Tryd.ty_size22 Tryd.ty_bytes22))) (And.intro (And.intro Tryd.ty_agg22 (And.intro Tryd.ty_zero22 Tryd.ty_elem22)) (And.intro Tryd.ty_sl22 (And.intro Tryd.ty_ni22 Tryd.ty_b22)))) (And.intro (And.intro (And.intro Tryd.ty_u22 (And.intro Tryd.ty_size23 Tryd.ty_agg23)) (And.intro Tryd.ty_zero23 (And.intro Tryd.ty_size24 Tryd.ty_bytes24))) (And.intro (And.intro Tryd.ty_agg24 (And.intro Tryd.ty_zero24 Tryd.ty_elem24)) (And.intro Tryd.ty_sl24 (And.intro Tryd.ty_ni24 Tryd.ty_b24)))))))) (And.intro (And.intro (And.intro (And.intro (And.intro (And.intro (And.intro Tryd.ty_u24 Tryd.ty_size25) (And.intro Tryd.ty_bytes25 (And.intro Tryd.ty_agg25 Tryd.ty_zero25))) (And.intro (And.intro Tryd.ty_sl25 (And.intro Tryd.ty_b25 Tryd.ty_fa25_0)) (And.intro Tryd.ty_ff25_0 (And.intro Tryd.ty_fa25_1 Tryd.ty_ff25_1)))) (And.intro (And.intro (And.intro Tryd.ty_fa25_2 Tryd.ty_ff25_2) (And.intro Tryd.ty_fa25_3 (And.intro Tryd.ty_ff25_3 Tryd.ty_bu25))) (And.intro (And.intro Tryd.ty_size26 (And.intro Tryd.ty_bytes26 Tryd.ty_agg26)) (And.intro Tryd.ty_zero26 (And.intro Tryd.ty_sl26 Tryd.ty_b26))))) (And.intro (And.intro (And.intro (And.intro Tryd.ty_fa26_0 Tryd.ty_ff26_0) (And.intro Tryd.ty_fa26_1 (And.intro Tryd.ty_ff26_1 Tryd.ty_fa26_2))) (And.intro (And.intro Tryd.ty_ff26_2 (And.intro Tryd.ty_fa26_3 Tryd.ty_ff26_3)) (And.intro Tryd.ty_bu26 (And.intro Tryd.ty_size27 Tryd.ty_bytes27)))) (And.intro (And.intro (And.intro Tryd.ty_agg27 (And.intro Tryd.ty_zero27 Tryd.ty_sl27)) (And.intro Tryd.ty_b27 (And.intro Tryd.ty_fa27_0 Tryd.ty_ff27_0))) (And.intro (And.intro Tryd.ty_fa27_1 (And.intro Tryd.ty_ff27_1 Tryd.ty_fa27_2)) (And.intro Tryd.ty_ff27_2 (And.intro Tryd.ty_fa27_3 Tryd.ty_ff27_3)))))) (And.intro (And.intro (And.intro (And.intro (And.intro Tryd.ty_bu27 Tryd.ty_size28) (And.intro Tryd.ty_bytes28 (And.intro Tryd.ty_agg28 Tryd.ty_zero28))) (And.intro (And.intro Tryd.ty_sl28 (And.intro Tryd.ty_b28 Tryd.ty_fa28_0)) (And.intro Tryd.ty_ff28_0 (And.intro Tryd.ty_fa28_1 Tryd.ty_ff28_1)))) (And.intro (And.intro (And.intro Tryd.ty_fa28_2 (And.intro Tryd.ty_ff28_2 Tryd.ty_fa28_3)) (And.intro Tryd.ty_ff28_3 (And.intro Tryd.ty_bu28 Tryd.ty_size29))) (And.intro (And.intro Tryd.ty_agg29 (And.intro Tryd.ty_zero29 Tryd.ty_size30)) (And.intro Tryd.ty_agg30 (And.intro Tryd.ty_zero30 Tryd.ty_size31))))) (And.intro (And.intro (And.intro (And.intro Tryd.ty_agg31 Tryd.ty_zero31) (And.intro Tryd.ty_size32 (And.intro Tryd.ty_agg32 Tryd.ty_zero32))) (And.intro (And.intro Tryd.ty_size33 (And.intro Tryd.ty_agg33 Tryd.ty_zero33)) (And.intro Tryd.ty_size34 (And.intro Tryd.ty_agg34 Tryd.ty_zero34)))) (And.intro (And.intro (And.intro Tryd.ty_size35 (And.intro Tryd.ty_bytes35 Tryd.ty_agg35)) (And.intro Tryd.ty_zero35 (And.intro Tryd.ty_sl35 Tryd.ty_b35))) (And.intro (And.intro Tryd.ty_fa35_0 (And.intro Tryd.ty_ff35_0 Tryd.ty_fa35_1)) (And.intro Tryd.ty_ff35_1 (And.intro Tryd.ty_fa35_2 Tryd.ty_ff35_2))))))) (And.intro (And.intro (And.intro (And.intro (And.intro (And.intro Tryd.ty_fa35_3 Tryd.ty_ff35_3) (And.intro Tryd.ty_fa35_4 (And.intro Tryd.ty_ff35_4 Tryd.ty_bu35))) (And.intro (And.intro Tryd.ty_size36 (And.intro Tryd.ty_bytes36 Tryd.ty_agg36)) (And.intro Tryd.ty_zero36 (And.intro Tryd.ty_sl36 Tryd.ty_b36)))) (And.intro (And.intro (And.intro Tryd.ty_u36 (And.intro Tryd.ty_bu36 Tryd.ty_size37)) (And.intro Tryd.ty_agg37 (And.intro Tryd.ty_zero37 Tryd.ty_size38))) (And.intro (And.intro Tryd.ty_agg38 (And.intro Tryd.ty_zero38 Tryd.ty_size39)) (And.intro Tryd.ty_agg39 (And.intro Tryd.ty_zero39 Tryd.ty_size40))))) (And.intro (And.intro (And.intro (And.intro Tryd.ty_agg40 Tryd.ty_zero40) (And.intro Tryd.ty_size41 (And.intro Tryd.ty_agg41 Tryd.ty_zero41))) (And.intro (And.intro Tryd.ty_size42 (And.intro Tryd.ty_agg42 Tryd.ty_zero42)) (And.intro Tryd.ty_size43 (And.intro Tryd.ty_agg43 Tryd.ty_zero43)))) (And.intro (And.intro (And.intro Tryd.ty_size44 (And.intro Tryd.ty_agg44 Tryd.ty_zero44)) (And.intro Tryd.ty_size45 (And.intro Tryd.ty_agg45 Tryd.ty_zero45))) (And.intro (And.intro Tryd.ty_size46 (And.intro Tryd.ty_agg46 Tryd.ty_zero46)) (And.intro Tryd.ty_size47 (And.intro Tryd.ty_bytes47 Tryd.ty_agg47)))))) (And.intro (And.intro (And.intro (And.intro (And.intro Tryd.ty_zero47 Tryd.ty_sl47) (And.intro Tryd.ty_b47 (And.intro Tryd.ty_u47 Tryd.ty_bu47))) (And.intro (And.intro Tryd.ty_size48 (And.intro Tryd.ty_agg48 Tryd.ty_zero48)) (And.intro Tryd.ty_size49 (And.intro Tryd.ty_agg49 Tryd.ty_zero49)))) (And.intro (And.intro (And.intro Tryd.ty_size50 (And.intro Tryd.ty_agg50 Tryd.ty_zero50)) (And.intro Tryd.ty_size52 (And.intro Tryd.ty_agg52 Tryd.ty_zero52))) (And.intro (And.intro Tryd.ty_size53 (And.intro Tryd.ty_agg53 Tryd.ty_zero53)) (And.intro Tryd.ty_size55 (And.intro Tryd.ty_agg55 Tryd.ty_zero55))))) (And.intro (And.intro (And.intro (And.intro Tryd.ty_size56 Tryd.ty_bytes56) (And.intro Tryd.ty_agg56 (And.intro Tryd.ty_zero56 Tryd.ty_elem56))) (And.intro (And.intro Tryd.ty_sl56 (And.intro Tryd.ty_ni56 Tryd.ty_b56)) (And.intro Tryd.ty_u56 (And.intro Tryd.ty_size57 Tryd.ty_bytes57)))) (And.intro (And.intro (And.intro Tryd.ty_agg57 (And.intro Tryd.ty_zero57 Tryd.ty_sl57)) (And.intro Tryd.ty_b57 (And.intro Tryd.ty_fa57_0 Tryd.ty_ff57_0))) (And.intro (And.intro Tryd.ty_fa57_1 (And.intro Tryd.ty_ff57_1 Tryd.ty_bu57)) (And.intro Tryd.ty_size58 (And.intro Tryd.ty_bytes58 Tryd.ty_agg58))))))))) (And.intro (And.intro (And.intro (And.intro (And.intro (And.intro (And.intro (And.intro Tryd.ty_zero58 Tryd.ty_sl58) (And.intro Tryd.ty_b58 (And.intro Tryd.ty_fa58_0 Tryd.ty_ff58_0))) (And.intro (And.intro Tryd.ty_fa58_1 (And.intro Tryd.ty_ff58_1 Tryd.ty_bu58)) (And.intro Tryd.ty_size59 (And.intro Tryd.ty_bytes59 Tryd.ty_agg59)))) (And.intro (And.intro (And.intro Tryd.ty_zero59 Tryd.ty_elem59) (And.intro Tryd.ty_sl59 (And.intro Tryd.ty_ni59 Tryd.ty_b59))) (And.intro (And.intro Tryd.ty_u59 (And.intro Tryd.ty_size60 Tryd.ty_agg60)) (And.intro Tryd.ty_zero60 (And.intro Tryd.ty_size61 Tryd.ty_agg61))))) (And.intro (And.intro (And.intro (And.intro Tryd.ty_zero61 Tryd.ty_size62) (And.intro Tryd.ty_agg62 (And.intro Tryd.ty_zero62 Tryd.ty_size63))) (And.intro (And.intro Tryd.ty_agg63 (And.intro Tryd.ty_zero63 Tryd.ty_size64)) (And.intro Tryd.ty_bytes64 (And.intro Tryd.ty_agg64 Tryd.ty_zero64)))) (And.intro (And.intro (And.intro Tryd.ty_sl64 (And.intro Tryd.ty_b64 Tryd.ty_u64)) (And.intro Tryd.ty_size65 (And.intro Tryd.ty_bytes65 Tryd.ty_agg65))) (And.intro (And.intro Tryd.ty_zero65 (And.intro Tryd.ty_sl65 Tryd.ty_b65)) (And.intro Tryd.ty_u65 (And.intro Tryd.ty_size67 Tryd.ty_agg67)))))) (And.intro (And.intro (And.intro (And.intro (And.intro Tryd.ty_zero67 Tryd.ty_size68) (And.intro Tryd.ty_agg68 (And.intro Tryd.ty_zero68 Tryd.ty_size69))) (And.intro (And.intro Tryd.ty_bytes69 (And.intro Tryd.ty_agg69 Tryd.ty_zero69)) (And.intro Tryd.ty_sl69 (And.intro Tryd.ty_b69 Tryd.ty_size70)))) (And.intro (And.intro (And.intro Tryd.ty_bytes70 (And.intro Tryd.ty_agg70 Tryd.ty_zero70)) (And.intro Tryd.ty_sl70 (And.intro Tryd.ty_b70 Tryd.ty_map70))) (And.intro (And.intro Tryd.ty_u70 (And.intro Tryd.ty_size71 Tryd.ty_bytes71)) (And.intro Tryd.ty_agg71 (And.intro Tryd.ty_zero71 Tryd.ty_sl71))))) (And.intro (And.intro (And.intro (And.intro Tryd.ty_b71 Tryd.ty_map71) (And.intro Tryd.ty_u71 (And.intro Tryd.ty_size72 Tryd.ty_agg72))) (And.intro (And.intro Tryd.ty_zero72 (And.intro Tryd.ty_size73 Tryd.ty_bytes73)) (And.intro Tryd.ty_agg73 (And.intro Tryd.ty_zero73 Tryd.ty_elem73)))) (And.intro (And.intro (And.intro Tryd.ty_sl73 (And.intro Tryd.ty_ni73 Tryd.ty_b73)) (And.intro Tryd.ty_u73 (And.intro Tryd.ty_size74 Tryd.ty_agg74))) (And.intro (And.intro Tryd.ty_zero74 (And.intro Tryd.ty_size75 Tryd.ty_agg75)) (And.intro Tryd.ty_zero75 (And.intro Tryd.ty_size76 Tryd.ty_agg76))))))) (And.intro (And.intro (And.intro (And.intro (And.intro (And.intro Tryd.ty_zero76 Tryd.ty_size77) (And.intro Tryd.ty_agg77 (And.intro Tryd.ty_zero77 Tryd.ty_size78))) (And.intro (And.intro Tryd.ty_agg78 (And.intro Tryd.ty_zero78 Tryd.ty_size79)) (And.intro Tryd.ty_agg79 (And.intro Tryd.ty_zero79 Tryd.ty_size81)))) (And.intro (And.intro (And.intro Tryd.ty_agg81 (And.intro Tryd.ty_zero81 Tryd.ty_size82)) (And.intro Tryd.ty_agg82 (And.intro Tryd.ty_zero82 Tryd.ty_size83))) (And.intro (And.intro Tryd.ty_agg83 (And.intro Tryd.ty_zero83 Tryd.ty_size84)) (And.intro Tryd.ty_agg84 (And.intro Tryd.ty_zero84 Tryd.ty_size85))))) (And.intro (And.intro (And.intro (And.intro Tryd.ty_agg85 Tryd.ty_zero85) (And.intro Tryd.ty_size86 (And.intro Tryd.ty_agg86 Tryd.ty_zero86))) (And.intro (And.intro Tryd.ty_size87 (And.intro Tryd.ty_agg87 Tryd.ty_zero87)) (And.intro Tryd.ty_size88 (And.intro Tryd.ty_agg88 Tryd.ty_zero88)))) (And.intro (And.intro (And.intro Tryd.ty_size89 (And.intro Tryd.ty_agg89 Tryd.ty_zero89)) (And.intro Tryd.ty_size90 (And.intro Tryd.ty_agg90 Tryd.ty_zero90))) (And.intro (And.intro Tryd.ty_size91 (And.intro Tryd.ty_agg91 Tryd.ty_zero91)) (And.intro Tryd.ty_size92 (And.intro Tryd.ty_agg92 Tryd.ty_zero92)))))) (And.intro (And.intro (And.intro (And.intro (And.intro Tryd.ty_size93 Tryd.ty_agg93) (And.intro Tryd.ty_zero93 (And.intro Tryd.ty_size94 Tryd.ty_bytes94))) (And.intro (And.intro Tryd.ty_agg94 (And.intro Tryd.ty_zero94 Tryd.ty_sl94)) (And.intro Tryd.ty_b94 (And.intro Tryd.ty_u94 Tryd.ty_size95)))) (And.intro (And.intro (And.intro Tryd.ty_bytes95 (And.intro Tryd.ty_agg95 Tryd.ty_zero95)) (And.intro Tryd.ty_sl95 (And.intro Tryd.ty_b95 Tryd.ty_u95))) (And.intro (And.intro Tryd.ty_size96 (And.intro Tryd.ty_bytes96 Tryd.ty_agg96)) (And.intro Tryd.ty_zero96 (And.intro Tryd.ty_sl96 Tryd.ty_b96))))) (And.intro (And.intro (And.intro (And.intro Tryd.ty_fa96_0 Tryd.ty_ff96_0) (And.intro Tryd.ty_fa96_1 (And.intro Tryd.ty_ff96_1 Tryd.ty_bu96))) (And.intro (And.intro Tryd.ty_size97 (And.intro Tryd.ty_bytes97 Tryd.ty_agg97)) (And.intro Tryd.ty_zero97 (And.intro Tryd.ty_sl97 Tryd.ty_b97)))) (And.intro (And.intro (And.intro Tryd.ty_fa97_0 (And.intro Tryd.ty_ff97_0 Tryd.ty_fa97_1)) (And.intro Tryd.ty_ff97_1 (And.intro Tryd.ty_bu97 Tryd.ty_size98))) (And.intro (And.intro Tryd.ty_bytes98 (And.intro Tryd.ty_agg98 Tryd.ty_zero98)) (And.intro Tryd.ty_sl98 (And.intro Tryd.ty_b98 Tryd.ty_u98)))))))) (And.intro (And.intro (And.intro (And.intro (And.intro (And.intro (And.intro Tryd.ty_bu98 Tryd.ty_size99) (And.intro Tryd.ty_agg99 (And.intro Tryd.ty_zero99 Tryd.ty_size100))) (And.intro (And.intro Tryd.ty_agg100 (And.intro Tryd.ty_zero100 Tryd.ty_size101)) (And.intro Tryd.ty_agg101 (And.intro Tryd.ty_zero101 Tryd.ty_size102)))) (And.intro (And.intro (And.intro Tryd.ty_agg102 Tryd.ty_zero102) (And.intro Tryd.ty_size103 (And.intro Tryd.ty_agg103 Tryd.ty_zero103))) (And.intro (And.intro Tryd.ty_size104 (And.intro Tryd.ty_bytes104 Tryd.ty_agg104)) (And.intro Tryd.ty_zero104 (And.intro Tryd.ty_sl104 Tryd.ty_b104))))) (And.intro (And.intro (And.intro (And.intro Tryd.ty_fa104_0 Tryd.ty_ff104_0) (And.intro Tryd.ty_fa104_1 (And.intro Tryd.ty_ff104_1 Tryd.ty_fa104_2))) (And.intro (And.intro Tryd.ty_ff104_2 (And.intro Tryd.ty_fa104_3 Tryd.ty_ff104_3)) (And.intro Tryd.ty_bu104 (And.intro Tryd.ty_size105 Tryd.ty_bytes105)))) (And.intro (And.intro (And.intro Tryd.ty_agg105 (And.intro Tryd.ty_zero105 Tryd.ty_sl105)) (And.intro Tryd.ty_b105 (And.intro Tryd.ty_fa105_0 Tryd.ty_ff105_0))) (And.intro (And.intro Tryd.ty_fa105_1 (And.intro Tryd.ty_ff105_1 Tryd.ty_fa105_2)) (And.intro Tryd.ty_ff105_2 (And.intro Tryd.ty_fa105_3 Tryd.ty_ff105_3)))))) (And.intro (And.intro (And.intro (And.intro (And.intro Tryd.ty_bu105 Tryd.ty_size106) (And.intro Tryd.ty_bytes106 (And.intro Tryd.ty_agg106 Tryd.ty_zero106))) (And.intro (And.intro Tryd.ty_sl106 (And.intro Tryd.ty_b106 Tryd.ty_u106)) (And.intro Tryd.ty_bu106 (And.intro Tryd.ty_size107 Tryd.ty_bytes107)))) (And.intro (And.intro (And.intro Tryd.ty_agg107 (And.intro Tryd.ty_zero107 Tryd.ty_sl107)) (And.intro Tryd.ty_b107 (And.intro Tryd.ty_fa107_0 Tryd.ty_ff107_0))) (And.intro (And.intro Tryd.ty_bu107 (And.intro Tryd.ty_size108 Tryd.ty_bytes108)) (And.intro Tryd.ty_agg108 (And.intro Tryd.ty_zero108 Tryd.ty_sl108))))) (And.intro (And.intro (And.intro (And.intro Tryd.ty_b108 Tryd.ty_fa108_0) (And.intro Tryd.ty_ff108_0 (And.intro Tryd.ty_bu108 Tryd.ty_size109))) (And.intro (And.intro Tryd.ty_agg109 (And.intro Tryd.ty_zero109 Tryd.ty_size110)) (And.intro Tryd.ty_bytes110 (And.intro Tryd.ty_agg110 Tryd.ty_zero110)))) (And.intro (And.intro (And.intro Tryd.ty_sl110 (And.intro Tryd.ty_b110 Tryd.ty_u110)) (And.intro Tryd.ty_size111 (And.intro Tryd.ty_bytes111 Tryd.ty_agg111))) (And.intro (And.intro Tryd.ty_zero111 (And.intro Tryd.ty_sl111 Tryd.ty_b111)) (And.intro Tryd.ty_u111 (And.intro Tryd.ty_size112 Tryd.ty_bytes112))))))) (And.intro (And.intro (And.intro (And.intro (And.intro (And.intro Tryd.ty_agg112 Tryd.ty_zero112) (And.intro Tryd.ty_sl112 (And.intro Tryd.ty_b112 Tryd.ty_u112))) (And.intro (And.intro Tryd.ty_size113 (And.intro Tryd.ty_agg113 Tryd.ty_zero113)) (And.intro Tryd.ty_size114 (And.intro Tryd.ty_bytes114 Tryd.ty_agg114)))) (And.intro (And.intro (And.intro Tryd.ty_zero114 (And.intro Tryd.ty_sl114 Tryd.ty_b114)) (And.intro Tryd.ty_size115 (And.intro Tryd.ty_bytes115 Tryd.ty_agg115))) (And.intro (And.intro Tryd.ty_zero115 (And.intro Tryd.ty_sl115 Tryd.ty_b115)) (And.intro Tryd.ty_u115 (And.intro Tryd.ty_size116 Tryd.ty_bytes116))))) (And.intro (And.intro (And.intro (And.intro Tryd.ty_agg116 Tryd.ty_zero116) (And.intro Tryd.ty_sl116 (And.intro Tryd.ty_b116 Tryd.ty_u116))) (And.intro (And.intro Tryd.ty_size117 (And.intro Tryd.ty_bytes117 Tryd.ty_agg117)) (And.intro Tryd.ty_zero117 (And.intro Tryd.ty_sl117 Tryd.ty_b117)))) (And.intro (And.intro (And.intro Tryd.ty_fa117_0 (And.intro Tryd.ty_ff117_0 Tryd.ty_fa117_1)) (And.intro Tryd.ty_ff117_1 (And.intro Tryd.ty_fa117_2 Tryd.ty_ff117_2))) (And.intro (And.intro Tryd.ty_fa117_3 (And.intro Tryd.ty_ff117_3 Tryd.ty_fa117_4)) (And.intro Tryd.ty_ff117_4 (And.intro Tryd.ty_fa117_5 Tryd.ty_ff117_5)))))) (And.intro (And.intro (And.intro (And.intro (And.intro Tryd.ty_fa117_6 Tryd.ty_ff117_6) (And.intro Tryd.ty_fa117_7 (And.intro Tryd.ty_ff117_7 Tryd.ty_fa117_8))) (And.intro (And.intro Tryd.ty_ff117_8 (And.intro Tryd.ty_fa117_9 Tryd.ty_ff117_9)) (And.intro Tryd.ty_fa117_10 (And.intro Tryd.ty_ff117_10 Tryd.ty_bu117)))) (And.intro (And.intro (And.intro Tryd.ty_size118 (And.intro Tryd.ty_bytes118 Tryd.ty_agg118)) (And.intro Tryd.ty_zero118 (And.intro Tryd.ty_sl118 Tryd.ty_b118))) (And.intro (And.intro Tryd.ty_fa118_0 (And.intro Tryd.ty_ff118_0 Tryd.ty_fa118_1)) (And.intro Tryd.ty_ff118_1 (And.intro Tryd.ty_fa118_2 Tryd.ty_ff118_2))))) (And.intro (And.intro (And.intro (And.intro Tryd.ty_fa118_3 Tryd.ty_ff118_3) (And.intro Tryd.ty_fa118_4 (And.intro Tryd.ty_ff118_4 Tryd.ty_fa118_5))) (And.intro (And.intro Tryd.ty_ff118_5 (And.intro Tryd.ty_fa118_6 Tryd.ty_ff118_6)) (And.intro Tryd.ty_fa118_7 (And.intro Tryd.ty_ff118_7 Tryd.ty_fa118_8)))) (And.intro (And.intro (And.intro Tryd.ty_ff118_8 (And.intro Tryd.ty_fa118_9 Tryd.ty_ff118_9)) (And.intro Tryd.ty_fa118_10 (And.intro Tryd.ty_ff118_10 Tryd.ty_bu118))) (And.intro (And.intro Tryd.ty_size119 (And.intro Tryd.ty_bytes119 Tryd.ty_agg119)) (And.intro Tryd.ty_zero119 (And.intro Tryd.ty_sl119 Tryd.ty_b119))))))))))
end Go.Proofs.YthlhepgajgmhgaaDoor
