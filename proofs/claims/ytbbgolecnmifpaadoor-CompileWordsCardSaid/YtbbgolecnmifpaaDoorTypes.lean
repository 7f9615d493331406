/-
  FACTS ON THE TYPES OF THIS SEAT's TRANSLATION, laid by program (gen_types.py).
-/
import Derived.Test.YtbbgolecnmifpaaDoorRows
import Derived.Test.YtbbgolecnmifpaaDoorAB
set_option linter.unusedVariables false
set_option maxRecDepth 100000
namespace Go.Proofs.YtbbgolecnmifpaaDoor
open Go.AM
theorem Tryd.ty_size1 : tsize Tryd.prog 1 = some 1 := by kernel_rfl
theorem Tryd.ty_agg1 : tagg Tryd.prog 1 = some false := by kernel_rfl
theorem Tryd.ty_zero1 : tzero Tryd.prog 1 = some .nilfn := by kernel_rfl
theorem Tryd.ty_size2 : tsize Tryd.prog 2 = some 1 := by kernel_rfl
theorem Tryd.ty_bytes2 : tbytes Tryd.prog 2 = some 8 := by kernel_rfl
theorem Tryd.ty_agg2 : tagg Tryd.prog 2 = some false := by kernel_rfl
theorem Tryd.ty_zero2 : tzero Tryd.prog 2 = some (.int .i64 0) := by kernel_rfl
theorem Tryd.ty_sl2 : isSlice Tryd.prog 2 = false := by kernel_rfl
theorem Tryd.ty_b2 : isBool Tryd.prog 2 = false := by kernel_rfl
theorem Tryd.ty_u2 : Tryd.prog.underlying 2 = some (.int .i64) := by kernel_rfl
theorem Tryd.ty_size3 : tsize Tryd.prog 3 = some 1 := by kernel_rfl
theorem Tryd.ty_bytes3 : tbytes Tryd.prog 3 = some 8 := by kernel_rfl
theorem Tryd.ty_agg3 : tagg Tryd.prog 3 = some false := by kernel_rfl
theorem Tryd.ty_zero3 : tzero Tryd.prog 3 = some (.int .i64 0) := by kernel_rfl
theorem Tryd.ty_sl3 : isSlice Tryd.prog 3 = false := by kernel_rfl
theorem Tryd.ty_b3 : isBool Tryd.prog 3 = false := by kernel_rfl
theorem Tryd.ty_u3 : Tryd.prog.underlying 3 = some (.int .i64) := by kernel_rfl
theorem Tryd.ty_size4 : tsize Tryd.prog 4 = some 1 := by kernel_rfl
theorem Tryd.ty_bytes4 : tbytes Tryd.prog 4 = some 1 := by kernel_rfl
theorem Tryd.ty_agg4 : tagg Tryd.prog 4 = some false := by kernel_rfl
theorem Tryd.ty_zero4 : tzero Tryd.prog 4 = some (.bool false) := by kernel_rfl
theorem Tryd.ty_sl4 : isSlice Tryd.prog 4 = false := by kernel_rfl
theorem Tryd.ty_b4 : isBool Tryd.prog 4 = true := by kernel_rfl
theorem Tryd.ty_size5 : tsize Tryd.prog 5 = some 1 := by kernel_rfl
theorem Tryd.ty_bytes5 : tbytes Tryd.prog 5 = some 1 := by kernel_rfl
theorem Tryd.ty_agg5 : tagg Tryd.prog 5 = some false := by kernel_rfl
theorem Tryd.ty_zero5 : tzero Tryd.prog 5 = some (.int .u8 0) := by kernel_rfl
theorem Tryd.ty_sl5 : isSlice Tryd.prog 5 = false := by kernel_rfl
theorem Tryd.ty_b5 : isBool Tryd.prog 5 = false := by kernel_rfl
theorem Tryd.ty_u5 : Tryd.prog.underlying 5 = some (.int .u8) := by kernel_rfl
theorem Tryd.ty_size6 : tsize Tryd.prog 6 = some 1 := by kernel_rfl
theorem Tryd.ty_bytes6 : tbytes Tryd.prog 6 = some 1 := by kernel_rfl
theorem Tryd.ty_agg6 : tagg Tryd.prog 6 = some false := by kernel_rfl
theorem Tryd.ty_zero6 : tzero Tryd.prog 6 = some (.int .u8 0) := by kernel_rfl
theorem Tryd.ty_sl6 : isSlice Tryd.prog 6 = false := by kernel_rfl
theorem Tryd.ty_b6 : isBool Tryd.prog 6 = false := by kernel_rfl
theorem Tryd.ty_u6 : Tryd.prog.underlying 6 = some (.int .u8) := by kernel_rfl
theorem Tryd.ty_size7 : tsize Tryd.prog 7 = some 4 := by kernel_rfl
theorem Tryd.ty_bytes7 : tbytes Tryd.prog 7 = some 24 := by kernel_rfl
theorem Tryd.ty_agg7 : tagg Tryd.prog 7 = some true := by kernel_rfl
theorem Tryd.ty_zero7 : tzero Tryd.prog 7 = some (.agg [.int .i64 0, .int .i64 0, .bool false, .int .u8 0]) := by kernel_rfl
theorem Tryd.ty_sl7 : isSlice Tryd.prog 7 = false := by kernel_rfl
theorem Tryd.ty_b7 : isBool Tryd.prog 7 = false := by kernel_rfl
theorem Tryd.ty_f7_0 : (fieldOf Tryd.prog 7 0).map (fun d => (d.type, d.offset)) = some (2, 0) := by kernel_rfl
theorem Tryd.ty_fo7_0 : ∃ d, fieldOf Tryd.prog 7 0 = some d ∧ d.type = 2 ∧ d.offset = 0 := fieldOf_some Tryd.ty_f7_0
theorem Tryd.ty_fa7_0 (x : AV) (rows : Nat → ARow) : aFieldAddr Tryd.prog 7 x 0 rows = fieldAddrA Tryd.prog 2 0 x rows := aFieldAddr_of Tryd.ty_fo7_0 x rows
theorem Tryd.ty_ff7_0 (x : AV) : aField Tryd.prog 7 x 0 = fieldA Tryd.prog 2 0 x := aField_of Tryd.ty_fo7_0 x
theorem Tryd.ty_f7_1 : (fieldOf Tryd.prog 7 1).map (fun d => (d.type, d.offset)) = some (3, 1) := by kernel_rfl
theorem Tryd.ty_fo7_1 : ∃ d, fieldOf Tryd.prog 7 1 = some d ∧ d.type = 3 ∧ d.offset = 1 := fieldOf_some Tryd.ty_f7_1
theorem Tryd.ty_fa7_1 (x : AV) (rows : Nat → ARow) : aFieldAddr Tryd.prog 7 x 1 rows = fieldAddrA Tryd.prog 3 1 x rows := aFieldAddr_of Tryd.ty_fo7_1 x rows
theorem Tryd.ty_ff7_1 (x : AV) : aField Tryd.prog 7 x 1 = fieldA Tryd.prog 3 1 x := aField_of Tryd.ty_fo7_1 x
theorem Tryd.ty_f7_2 : (fieldOf Tryd.prog 7 2).map (fun d => (d.type, d.offset)) = some (4, 2) := by kernel_rfl
theorem Tryd.ty_fo7_2 : ∃ d, fieldOf Tryd.prog 7 2 = some d ∧ d.type = 4 ∧ d.offset = 2 := fieldOf_some Tryd.ty_f7_2
theorem Tryd.ty_fa7_2 (x : AV) (rows : Nat → ARow) : aFieldAddr Tryd.prog 7 x 2 rows = fieldAddrA Tryd.prog 4 2 x rows := aFieldAddr_of Tryd.ty_fo7_2 x rows
theorem Tryd.ty_ff7_2 (x : AV) : aField Tryd.prog 7 x 2 = fieldA Tryd.prog 4 2 x := aField_of Tryd.ty_fo7_2 x
theorem Tryd.ty_f7_3 : (fieldOf Tryd.prog 7 3).map (fun d => (d.type, d.offset)) = some (6, 3) := by kernel_rfl
theorem Tryd.ty_fo7_3 : ∃ d, fieldOf Tryd.prog 7 3 = some d ∧ d.type = 6 ∧ d.offset = 3 := fieldOf_some Tryd.ty_f7_3
theorem Tryd.ty_fa7_3 (x : AV) (rows : Nat → ARow) : aFieldAddr Tryd.prog 7 x 3 rows = fieldAddrA Tryd.prog 6 3 x rows := aFieldAddr_of Tryd.ty_fo7_3 x rows
theorem Tryd.ty_ff7_3 (x : AV) : aField Tryd.prog 7 x 3 = fieldA Tryd.prog 6 3 x := aField_of Tryd.ty_fo7_3 x
theorem Tryd.ty_bu7 (parts : List (Nat × AV)) : aBuild Tryd.prog 7 parts = (fillA (fun i => ([(0, 1), (1, 1), (2, 1), (3, 1)] : List (Nat × Nat))[i]?) [.int .i64 0, .int .i64 0, .bool false, .int .u8 0] parts).map .agg := aBuild_struct (by kernel_rfl) (by kernel_rfl)
theorem Tryd.ty_size8 : tsize Tryd.prog 8 = some 4 := by kernel_rfl
theorem Tryd.ty_bytes8 : tbytes Tryd.prog 8 = some 24 := by kernel_rfl
theorem Tryd.ty_agg8 : tagg Tryd.prog 8 = some true := by kernel_rfl
theorem Tryd.ty_zero8 : tzero Tryd.prog 8 = some (.agg [.int .i64 0, .int .i64 0, .bool false, .int .u8 0]) := by kernel_rfl
theorem Tryd.ty_sl8 : isSlice Tryd.prog 8 = false := by kernel_rfl
theorem Tryd.ty_b8 : isBool Tryd.prog 8 = false := by kernel_rfl
theorem Tryd.ty_f8_0 : (fieldOf Tryd.prog 8 0).map (fun d => (d.type, d.offset)) = some (2, 0) := by kernel_rfl
theorem Tryd.ty_fo8_0 : ∃ d, fieldOf Tryd.prog 8 0 = some d ∧ d.type = 2 ∧ d.offset = 0 := fieldOf_some Tryd.ty_f8_0
theorem Tryd.ty_fa8_0 (x : AV) (rows : Nat → ARow) : aFieldAddr Tryd.prog 8 x 0 rows = fieldAddrA Tryd.prog 2 0 x rows := aFieldAddr_of Tryd.ty_fo8_0 x rows
theorem Tryd.ty_ff8_0 (x : AV) : aField Tryd.prog 8 x 0 = fieldA Tryd.prog 2 0 x := aField_of Tryd.ty_fo8_0 x
theorem Tryd.ty_f8_1 : (fieldOf Tryd.prog 8 1).map (fun d => (d.type, d.offset)) = some (3, 1) := by kernel_rfl
theorem Tryd.ty_fo8_1 : ∃ d, fieldOf Tryd.prog 8 1 = some d ∧ d.type = 3 ∧ d.offset = 1 := fieldOf_some Tryd.ty_f8_1
theorem Tryd.ty_fa8_1 (x : AV) (rows : Nat → ARow) : aFieldAddr Tryd.prog 8 x 1 rows = fieldAddrA Tryd.prog 3 1 x rows := aFieldAddr_of Tryd.ty_fo8_1 x rows
theorem Tryd.ty_ff8_1 (x : AV) : aField Tryd.prog 8 x 1 = fieldA Tryd.prog 3 1 x := aField_of Tryd.ty_fo8_1 x
theorem Tryd.ty_f8_2 : (fieldOf Tryd.prog 8 2).map (fun d => (d.type, d.offset)) = some (4, 2) := by kernel_rfl
theorem Tryd.ty_fo8_2 : ∃ d, fieldOf Tryd.prog 8 2 = some d ∧ d.type = 4 ∧ d.offset = 2 := fieldOf_some Tryd.ty_f8_2
theorem Tryd.ty_fa8_2 (x : AV) (rows : Nat → ARow) : aFieldAddr Tryd.prog 8 x 2 rows = fieldAddrA Tryd.prog 4 2 x rows := aFieldAddr_of Tryd.ty_fo8_2 x rows
theorem Tryd.ty_ff8_2 (x : AV) : aField Tryd.prog 8 x 2 = fieldA Tryd.prog 4 2 x := aField_of Tryd.ty_fo8_2 x
theorem Tryd.ty_f8_3 : (fieldOf Tryd.prog 8 3).map (fun d => (d.type, d.offset)) = some (6, 3) := by kernel_rfl
theorem Tryd.ty_fo8_3 : ∃ d, fieldOf Tryd.prog 8 3 = some d ∧ d.type = 6 ∧ d.offset = 3 := fieldOf_some Tryd.ty_f8_3
theorem Tryd.ty_fa8_3 (x : AV) (rows : Nat → ARow) : aFieldAddr Tryd.prog 8 x 3 rows = fieldAddrA Tryd.prog 6 3 x rows := aFieldAddr_of Tryd.ty_fo8_3 x rows
theorem Tryd.ty_ff8_3 (x : AV) : aField Tryd.prog 8 x 3 = fieldA Tryd.prog 6 3 x := aField_of Tryd.ty_fo8_3 x
theorem Tryd.ty_bu8 (parts : List (Nat × AV)) : aBuild Tryd.prog 8 parts = (fillA (fun i => ([(0, 1), (1, 1), (2, 1), (3, 1)] : List (Nat × Nat))[i]?) [.int .i64 0, .int .i64 0, .bool false, .int .u8 0] parts).map .agg := aBuild_struct (by kernel_rfl) (by kernel_rfl)
theorem Tryd.ty_size9 : tsize Tryd.prog 9 = some 1 := by kernel_rfl
theorem Tryd.ty_bytes9 : tbytes Tryd.prog 9 = some 16 := by kernel_rfl
theorem Tryd.ty_agg9 : tagg Tryd.prog 9 = some false := by kernel_rfl
theorem Tryd.ty_zero9 : tzero Tryd.prog 9 = some (.str ByteArray.empty) := by kernel_rfl
theorem Tryd.ty_sl9 : isSlice Tryd.prog 9 = false := by kernel_rfl
theorem Tryd.ty_ni9 : notInt Tryd.prog 9 = true := by kernel_rfl
theorem Tryd.ty_b9 : isBool Tryd.prog 9 = false := by kernel_rfl
theorem Tryd.ty_u9 : Tryd.prog.underlying 9 = some (.string) := by kernel_rfl
theorem Tryd.ty_size10 : tsize Tryd.prog 10 = some 1 := by kernel_rfl
theorem Tryd.ty_bytes10 : tbytes Tryd.prog 10 = some 16 := by kernel_rfl
theorem Tryd.ty_agg10 : tagg Tryd.prog 10 = some false := by kernel_rfl
theorem Tryd.ty_zero10 : tzero Tryd.prog 10 = some (.str ByteArray.empty) := by kernel_rfl
theorem Tryd.ty_sl10 : isSlice Tryd.prog 10 = false := by kernel_rfl
theorem Tryd.ty_ni10 : notInt Tryd.prog 10 = true := by kernel_rfl
theorem Tryd.ty_b10 : isBool Tryd.prog 10 = false := by kernel_rfl
theorem Tryd.ty_u10 : Tryd.prog.underlying 10 = some (.string) := by kernel_rfl
theorem Tryd.ty_size11 : tsize Tryd.prog 11 = some 1 := by kernel_rfl
theorem Tryd.ty_bytes11 : tbytes Tryd.prog 11 = some 16 := by kernel_rfl
theorem Tryd.ty_agg11 : tagg Tryd.prog 11 = some false := by kernel_rfl
theorem Tryd.ty_zero11 : tzero Tryd.prog 11 = some (.str ByteArray.empty) := by kernel_rfl
theorem Tryd.ty_sl11 : isSlice Tryd.prog 11 = false := by kernel_rfl
theorem Tryd.ty_ni11 : notInt Tryd.prog 11 = true := by kernel_rfl
theorem Tryd.ty_b11 : isBool Tryd.prog 11 = false := by kernel_rfl
theorem Tryd.ty_u11 : Tryd.prog.underlying 11 = some (.string) := by kernel_rfl
theorem Tryd.ty_size12 : tsize Tryd.prog 12 = some 1 := by kernel_rfl
theorem Tryd.ty_bytes12 : tbytes Tryd.prog 12 = some 8 := by kernel_rfl
theorem Tryd.ty_agg12 : tagg Tryd.prog 12 = some false := by kernel_rfl
theorem Tryd.ty_zero12 : tzero Tryd.prog 12 = some (.int .u64 0) := by kernel_rfl
theorem Tryd.ty_sl12 : isSlice Tryd.prog 12 = false := by kernel_rfl
theorem Tryd.ty_b12 : isBool Tryd.prog 12 = false := by kernel_rfl
theorem Tryd.ty_u12 : Tryd.prog.underlying 12 = some (.int .u64) := by kernel_rfl
theorem Tryd.ty_size13 : tsize Tryd.prog 13 = some 2 := by kernel_rfl
theorem Tryd.ty_bytes13 : tbytes Tryd.prog 13 = some 24 := by kernel_rfl
theorem Tryd.ty_agg13 : tagg Tryd.prog 13 = some true := by kernel_rfl
theorem Tryd.ty_zero13 : tzero Tryd.prog 13 = some (.agg [.str ByteArray.empty, .int .u64 0]) := by kernel_rfl
theorem Tryd.ty_sl13 : isSlice Tryd.prog 13 = false := by kernel_rfl
theorem Tryd.ty_b13 : isBool Tryd.prog 13 = false := by kernel_rfl
theorem Tryd.ty_f13_0 : (fieldOf Tryd.prog 13 0).map (fun d => (d.type, d.offset)) = some (9, 0) := by kernel_rfl
theorem Tryd.ty_fo13_0 : ∃ d, fieldOf Tryd.prog 13 0 = some d ∧ d.type = 9 ∧ d.offset = 0 := fieldOf_some Tryd.ty_f13_0
theorem Tryd.ty_fa13_0 (x : AV) (rows : Nat → ARow) : aFieldAddr Tryd.prog 13 x 0 rows = fieldAddrA Tryd.prog 9 0 x rows := aFieldAddr_of Tryd.ty_fo13_0 x rows
theorem Tryd.ty_ff13_0 (x : AV) : aField Tryd.prog 13 x 0 = fieldA Tryd.prog 9 0 x := aField_of Tryd.ty_fo13_0 x
theorem Tryd.ty_f13_1 : (fieldOf Tryd.prog 13 1).map (fun d => (d.type, d.offset)) = some (12, 1) := by kernel_rfl
theorem Tryd.ty_fo13_1 : ∃ d, fieldOf Tryd.prog 13 1 = some d ∧ d.type = 12 ∧ d.offset = 1 := fieldOf_some Tryd.ty_f13_1
theorem Tryd.ty_fa13_1 (x : AV) (rows : Nat → ARow) : aFieldAddr Tryd.prog 13 x 1 rows = fieldAddrA Tryd.prog 12 1 x rows := aFieldAddr_of Tryd.ty_fo13_1 x rows
theorem Tryd.ty_ff13_1 (x : AV) : aField Tryd.prog 13 x 1 = fieldA Tryd.prog 12 1 x := aField_of Tryd.ty_fo13_1 x
theorem Tryd.ty_bu13 (parts : List (Nat × AV)) : aBuild Tryd.prog 13 parts = (fillA (fun i => ([(0, 1), (1, 1)] : List (Nat × Nat))[i]?) [.str ByteArray.empty, .int .u64 0] parts).map .agg := aBuild_struct (by kernel_rfl) (by kernel_rfl)
theorem Tryd.ty_size14 : tsize Tryd.prog 14 = some 2 := by kernel_rfl
theorem Tryd.ty_bytes14 : tbytes Tryd.prog 14 = some 24 := by kernel_rfl
theorem Tryd.ty_agg14 : tagg Tryd.prog 14 = some true := by kernel_rfl
theorem Tryd.ty_zero14 : tzero Tryd.prog 14 = some (.agg [.str ByteArray.empty, .int .u64 0]) := by kernel_rfl
theorem Tryd.ty_sl14 : isSlice Tryd.prog 14 = false := by kernel_rfl
theorem Tryd.ty_b14 : isBool Tryd.prog 14 = false := by kernel_rfl
theorem Tryd.ty_f14_0 : (fieldOf Tryd.prog 14 0).map (fun d => (d.type, d.offset)) = some (9, 0) := by kernel_rfl
theorem Tryd.ty_fo14_0 : ∃ d, fieldOf Tryd.prog 14 0 = some d ∧ d.type = 9 ∧ d.offset = 0 := fieldOf_some Tryd.ty_f14_0
theorem Tryd.ty_fa14_0 (x : AV) (rows : Nat → ARow) : aFieldAddr Tryd.prog 14 x 0 rows = fieldAddrA Tryd.prog 9 0 x rows := aFieldAddr_of Tryd.ty_fo14_0 x rows
theorem Tryd.ty_ff14_0 (x : AV) : aField Tryd.prog 14 x 0 = fieldA Tryd.prog 9 0 x := aField_of Tryd.ty_fo14_0 x
theorem Tryd.ty_f14_1 : (fieldOf Tryd.prog 14 1).map (fun d => (d.type, d.offset)) = some (12, 1) := by kernel_rfl
theorem Tryd.ty_fo14_1 : ∃ d, fieldOf Tryd.prog 14 1 = some d ∧ d.type = 12 ∧ d.offset = 1 := fieldOf_some Tryd.ty_f14_1
theorem Tryd.ty_fa14_1 (x : AV) (rows : Nat → ARow) : aFieldAddr Tryd.prog 14 x 1 rows = fieldAddrA Tryd.prog 12 1 x rows := aFieldAddr_of Tryd.ty_fo14_1 x rows
theorem Tryd.ty_ff14_1 (x : AV) : aField Tryd.prog 14 x 1 = fieldA Tryd.prog 12 1 x := aField_of Tryd.ty_fo14_1 x
theorem Tryd.ty_bu14 (parts : List (Nat × AV)) : aBuild Tryd.prog 14 parts = (fillA (fun i => ([(0, 1), (1, 1)] : List (Nat × Nat))[i]?) [.str ByteArray.empty, .int .u64 0] parts).map .agg := aBuild_struct (by kernel_rfl) (by kernel_rfl)
theorem Tryd.ty_size15 : tsize Tryd.prog 15 = some 1 := by kernel_rfl
theorem Tryd.ty_bytes15 : tbytes Tryd.prog 15 = some 8 := by kernel_rfl
theorem Tryd.ty_agg15 : tagg Tryd.prog 15 = some false := by kernel_rfl
theorem Tryd.ty_zero15 : tzero Tryd.prog 15 = some (.nilptr) := by kernel_rfl
theorem Tryd.ty_sl15 : isSlice Tryd.prog 15 = false := by kernel_rfl
theorem Tryd.ty_b15 : isBool Tryd.prog 15 = false := by kernel_rfl
theorem Tryd.ty_size16 : tsize Tryd.prog 16 = some 1 := by kernel_rfl
theorem Tryd.ty_bytes16 : tbytes Tryd.prog 16 = some 8 := by kernel_rfl
theorem Tryd.ty_agg16 : tagg Tryd.prog 16 = some false := by kernel_rfl
theorem Tryd.ty_zero16 : tzero Tryd.prog 16 = some (.nilptr) := by kernel_rfl
theorem Tryd.ty_sl16 : isSlice Tryd.prog 16 = false := by kernel_rfl
theorem Tryd.ty_b16 : isBool Tryd.prog 16 = false := by kernel_rfl
theorem Tryd.ty_size17 : tsize Tryd.prog 17 = some 1 := by kernel_rfl
theorem Tryd.ty_bytes17 : tbytes Tryd.prog 17 = some 8 := by kernel_rfl
theorem Tryd.ty_agg17 : tagg Tryd.prog 17 = some false := by kernel_rfl
theorem Tryd.ty_zero17 : tzero Tryd.prog 17 = some (.nilptr) := by kernel_rfl
theorem Tryd.ty_sl17 : isSlice Tryd.prog 17 = false := by kernel_rfl
theorem Tryd.ty_b17 : isBool Tryd.prog 17 = false := by kernel_rfl
theorem Tryd.ty_size18 : tsize Tryd.prog 18 = some 1 := by kernel_rfl
theorem Tryd.ty_bytes18 : tbytes Tryd.prog 18 = some 8 := by kernel_rfl
theorem Tryd.ty_agg18 : tagg Tryd.prog 18 = some true := by kernel_rfl
theorem Tryd.ty_zero18 : tzero Tryd.prog 18 = some (.agg [.nilptr]) := by kernel_rfl
theorem Tryd.ty_sl18 : isSlice Tryd.prog 18 = false := by kernel_rfl
theorem Tryd.ty_b18 : isBool Tryd.prog 18 = false := by kernel_rfl
theorem Tryd.ty_f18_0 : (fieldOf Tryd.prog 18 0).map (fun d => (d.type, d.offset)) = some (17, 0) := by kernel_rfl
theorem Tryd.ty_fo18_0 : ∃ d, fieldOf Tryd.prog 18 0 = some d ∧ d.type = 17 ∧ d.offset = 0 := fieldOf_some Tryd.ty_f18_0
theorem Tryd.ty_fa18_0 (x : AV) (rows : Nat → ARow) : aFieldAddr Tryd.prog 18 x 0 rows = fieldAddrA Tryd.prog 17 0 x rows := aFieldAddr_of Tryd.ty_fo18_0 x rows
theorem Tryd.ty_ff18_0 (x : AV) : aField Tryd.prog 18 x 0 = fieldA Tryd.prog 17 0 x := aField_of Tryd.ty_fo18_0 x
theorem Tryd.ty_bu18 (parts : List (Nat × AV)) : aBuild Tryd.prog 18 parts = (fillA (fun i => ([(0, 1)] : List (Nat × Nat))[i]?) [.nilptr] parts).map .agg := aBuild_struct (by kernel_rfl) (by kernel_rfl)
theorem Tryd.ty_size19 : tsize Tryd.prog 19 = some 1 := by kernel_rfl
theorem Tryd.ty_bytes19 : tbytes Tryd.prog 19 = some 8 := by kernel_rfl
theorem Tryd.ty_agg19 : tagg Tryd.prog 19 = some true := by kernel_rfl
theorem Tryd.ty_zero19 : tzero Tryd.prog 19 = some (.agg [.nilptr]) := by kernel_rfl
theorem Tryd.ty_sl19 : isSlice Tryd.prog 19 = false := by kernel_rfl
theorem Tryd.ty_b19 : isBool Tryd.prog 19 = false := by kernel_rfl
theorem Tryd.ty_f19_0 : (fieldOf Tryd.prog 19 0).map (fun d => (d.type, d.offset)) = some (17, 0) := by kernel_rfl
theorem Tryd.ty_fo19_0 : ∃ d, fieldOf Tryd.prog 19 0 = some d ∧ d.type = 17 ∧ d.offset = 0 := fieldOf_some Tryd.ty_f19_0
theorem Tryd.ty_fa19_0 (x : AV) (rows : Nat → ARow) : aFieldAddr Tryd.prog 19 x 0 rows = fieldAddrA Tryd.prog 17 0 x rows := aFieldAddr_of Tryd.ty_fo19_0 x rows
theorem Tryd.ty_ff19_0 (x : AV) : aField Tryd.prog 19 x 0 = fieldA Tryd.prog 17 0 x := aField_of Tryd.ty_fo19_0 x
theorem Tryd.ty_bu19 (parts : List (Nat × AV)) : aBuild Tryd.prog 19 parts = (fillA (fun i => ([(0, 1)] : List (Nat × Nat))[i]?) [.nilptr] parts).map .agg := aBuild_struct (by kernel_rfl) (by kernel_rfl)
theorem Tryd.ty_size21 : tsize Tryd.prog 21 = some 1 := by kernel_rfl
theorem Tryd.ty_bytes21 : tbytes Tryd.prog 21 = some 4 := by kernel_rfl
theorem Tryd.ty_agg21 : tagg Tryd.prog 21 = some false := by kernel_rfl
theorem Tryd.ty_zero21 : tzero Tryd.prog 21 = some (.int .i32 0) := by kernel_rfl
theorem Tryd.ty_sl21 : isSlice Tryd.prog 21 = false := by kernel_rfl
theorem Tryd.ty_b21 : isBool Tryd.prog 21 = false := by kernel_rfl
theorem Tryd.ty_u21 : Tryd.prog.underlying 21 = some (.int .i32) := by kernel_rfl
theorem Tryd.ty_size22 : tsize Tryd.prog 22 = some 1 := by kernel_rfl
theorem Tryd.ty_bytes22 : tbytes Tryd.prog 22 = some 24 := by kernel_rfl
theorem Tryd.ty_agg22 : tagg Tryd.prog 22 = some false := by kernel_rfl
theorem Tryd.ty_zero22 : tzero Tryd.prog 22 = some (.sl true []) := by kernel_rfl
theorem Tryd.ty_elem22 : elemOf' Tryd.prog 22 = some 3 := by kernel_rfl
theorem Tryd.ty_sl22 : isSlice Tryd.prog 22 = true := by kernel_rfl
theorem Tryd.ty_ni22 : notInt Tryd.prog 22 = true := by kernel_rfl
theorem Tryd.ty_b22 : isBool Tryd.prog 22 = false := by kernel_rfl
theorem Tryd.ty_u22 : Tryd.prog.underlying 22 = some (.slice 3) := by kernel_rfl
theorem Tryd.ty_size23 : tsize Tryd.prog 23 = some 1 := by kernel_rfl
theorem Tryd.ty_bytes23 : tbytes Tryd.prog 23 = some 24 := by kernel_rfl
theorem Tryd.ty_agg23 : tagg Tryd.prog 23 = some false := by kernel_rfl
theorem Tryd.ty_zero23 : tzero Tryd.prog 23 = some (.sl true []) := by kernel_rfl
theorem Tryd.ty_elem23 : elemOf' Tryd.prog 23 = some 25 := by kernel_rfl
theorem Tryd.ty_sl23 : isSlice Tryd.prog 23 = true := by kernel_rfl
theorem Tryd.ty_ni23 : notInt Tryd.prog 23 = true := by kernel_rfl
theorem Tryd.ty_b23 : isBool Tryd.prog 23 = false := by kernel_rfl
theorem Tryd.ty_u23 : Tryd.prog.underlying 23 = some (.slice 25) := by kernel_rfl
theorem Tryd.ty_size24 : tsize Tryd.prog 24 = some 4 := by kernel_rfl
theorem Tryd.ty_bytes24 : tbytes Tryd.prog 24 = some 48 := by kernel_rfl
theorem Tryd.ty_agg24 : tagg Tryd.prog 24 = some true := by kernel_rfl
theorem Tryd.ty_zero24 : tzero Tryd.prog 24 = some (.agg [.int .i64 0, .int .i64 0, .int .i64 0, .sl true []]) := by kernel_rfl
theorem Tryd.ty_sl24 : isSlice Tryd.prog 24 = false := by kernel_rfl
theorem Tryd.ty_b24 : isBool Tryd.prog 24 = false := by kernel_rfl
theorem Tryd.ty_f24_0 : (fieldOf Tryd.prog 24 0).map (fun d => (d.type, d.offset)) = some (3, 0) := by kernel_rfl
theorem Tryd.ty_fo24_0 : ∃ d, fieldOf Tryd.prog 24 0 = some d ∧ d.type = 3 ∧ d.offset = 0 := fieldOf_some Tryd.ty_f24_0
theorem Tryd.ty_fa24_0 (x : AV) (rows : Nat → ARow) : aFieldAddr Tryd.prog 24 x 0 rows = fieldAddrA Tryd.prog 3 0 x rows := aFieldAddr_of Tryd.ty_fo24_0 x rows
theorem Tryd.ty_ff24_0 (x : AV) : aField Tryd.prog 24 x 0 = fieldA Tryd.prog 3 0 x := aField_of Tryd.ty_fo24_0 x
theorem Tryd.ty_f24_1 : (fieldOf Tryd.prog 24 1).map (fun d => (d.type, d.offset)) = some (3, 1) := by kernel_rfl
theorem Tryd.ty_fo24_1 : ∃ d, fieldOf Tryd.prog 24 1 = some d ∧ d.type = 3 ∧ d.offset = 1 := fieldOf_some Tryd.ty_f24_1
theorem Tryd.ty_fa24_1 (x : AV) (rows : Nat → ARow) : aFieldAddr Tryd.prog 24 x 1 rows = fieldAddrA Tryd.prog 3 1 x rows := aFieldAddr_of Tryd.ty_fo24_1 x rows
theorem Tryd.ty_ff24_1 (x : AV) : aField Tryd.prog 24 x 1 = fieldA Tryd.prog 3 1 x := aField_of Tryd.ty_fo24_1 x
theorem Tryd.ty_f24_2 : (fieldOf Tryd.prog 24 2).map (fun d => (d.type, d.offset)) = some (3, 2) := by kernel_rfl
theorem Tryd.ty_fo24_2 : ∃ d, fieldOf Tryd.prog 24 2 = some d ∧ d.type = 3 ∧ d.offset = 2 := fieldOf_some Tryd.ty_f24_2
theorem Tryd.ty_fa24_2 (x : AV) (rows : Nat → ARow) : aFieldAddr Tryd.prog 24 x 2 rows = fieldAddrA Tryd.prog 3 2 x rows := aFieldAddr_of Tryd.ty_fo24_2 x rows
theorem Tryd.ty_ff24_2 (x : AV) : aField Tryd.prog 24 x 2 = fieldA Tryd.prog 3 2 x := aField_of Tryd.ty_fo24_2 x
theorem Tryd.ty_f24_3 : (fieldOf Tryd.prog 24 3).map (fun d => (d.type, d.offset)) = some (23, 3) := by kernel_rfl
theorem Tryd.ty_fo24_3 : ∃ d, fieldOf Tryd.prog 24 3 = some d ∧ d.type = 23 ∧ d.offset = 3 := fieldOf_some Tryd.ty_f24_3
theorem Tryd.ty_fa24_3 (x : AV) (rows : Nat → ARow) : aFieldAddr Tryd.prog 24 x 3 rows = fieldAddrA Tryd.prog 23 3 x rows := aFieldAddr_of Tryd.ty_fo24_3 x rows
theorem Tryd.ty_ff24_3 (x : AV) : aField Tryd.prog 24 x 3 = fieldA Tryd.prog 23 3 x := aField_of Tryd.ty_fo24_3 x
theorem Tryd.ty_bu24 (parts : List (Nat × AV)) : aBuild Tryd.prog 24 parts = (fillA (fun i => ([(0, 1), (1, 1), (2, 1), (3, 1)] : List (Nat × Nat))[i]?) [.int .i64 0, .int .i64 0, .int .i64 0, .sl true []] parts).map .agg := aBuild_struct (by kernel_rfl) (by kernel_rfl)
theorem Tryd.ty_size25 : tsize Tryd.prog 25 = some 4 := by kernel_rfl
theorem Tryd.ty_bytes25 : tbytes Tryd.prog 25 = some 48 := by kernel_rfl
theorem Tryd.ty_agg25 : tagg Tryd.prog 25 = some true := by kernel_rfl
theorem Tryd.ty_zero25 : tzero Tryd.prog 25 = some (.agg [.int .i64 0, .int .i64 0, .int .i64 0, .sl true []]) := by kernel_rfl
theorem Tryd.ty_sl25 : isSlice Tryd.prog 25 = false := by kernel_rfl
theorem Tryd.ty_b25 : isBool Tryd.prog 25 = false := by kernel_rfl
theorem Tryd.ty_f25_0 : (fieldOf Tryd.prog 25 0).map (fun d => (d.type, d.offset)) = some (3, 0) := by kernel_rfl
theorem Tryd.ty_fo25_0 : ∃ d, fieldOf Tryd.prog 25 0 = some d ∧ d.type = 3 ∧ d.offset = 0 := fieldOf_some Tryd.ty_f25_0
theorem Tryd.ty_fa25_0 (x : AV) (rows : Nat → ARow) : aFieldAddr Tryd.prog 25 x 0 rows = fieldAddrA Tryd.prog 3 0 x rows := aFieldAddr_of Tryd.ty_fo25_0 x rows
theorem Tryd.ty_ff25_0 (x : AV) : aField Tryd.prog 25 x 0 = fieldA Tryd.prog 3 0 x := aField_of Tryd.ty_fo25_0 x
theorem Tryd.ty_f25_1 : (fieldOf Tryd.prog 25 1).map (fun d => (d.type, d.offset)) = some (3, 1) := by kernel_rfl
theorem Tryd.ty_fo25_1 : ∃ d, fieldOf Tryd.prog 25 1 = some d ∧ d.type = 3 ∧ d.offset = 1 := fieldOf_some Tryd.ty_f25_1
theorem Tryd.ty_fa25_1 (x : AV) (rows : Nat → ARow) : aFieldAddr Tryd.prog 25 x 1 rows = fieldAddrA Tryd.prog 3 1 x rows := aFieldAddr_of Tryd.ty_fo25_1 x rows
theorem Tryd.ty_ff25_1 (x : AV) : aField Tryd.prog 25 x 1 = fieldA Tryd.prog 3 1 x := aField_of Tryd.ty_fo25_1 x
theorem Tryd.ty_f25_2 : (fieldOf Tryd.prog 25 2).map (fun d => (d.type, d.offset)) = some (3, 2) := by kernel_rfl
theorem Tryd.ty_fo25_2 : ∃ d, fieldOf Tryd.prog 25 2 = some d ∧ d.type = 3 ∧ d.offset = 2 := fieldOf_some Tryd.ty_f25_2
theorem Tryd.ty_fa25_2 (x : AV) (rows : Nat → ARow) : aFieldAddr Tryd.prog 25 x 2 rows = fieldAddrA Tryd.prog 3 2 x rows := aFieldAddr_of Tryd.ty_fo25_2 x rows
theorem Tryd.ty_ff25_2 (x : AV) : aField Tryd.prog 25 x 2 = fieldA Tryd.prog 3 2 x := aField_of Tryd.ty_fo25_2 x
theorem Tryd.ty_f25_3 : (fieldOf Tryd.prog 25 3).map (fun d => (d.type, d.offset)) = some (23, 3) := by kernel_rfl
theorem Tryd.ty_fo25_3 : ∃ d, fieldOf Tryd.prog 25 3 = some d ∧ d.type = 23 ∧ d.offset = 3 := fieldOf_some Tryd.ty_f25_3
theorem Tryd.ty_fa25_3 (x : AV) (rows : Nat → ARow) : aFieldAddr Tryd.prog 25 x 3 rows = fieldAddrA Tryd.prog 23 3 x rows := aFieldAddr_of Tryd.ty_fo25_3 x rows
theorem Tryd.ty_ff25_3 (x : AV) : aField Tryd.prog 25 x 3 = fieldA Tryd.prog 23 3 x := aField_of Tryd.ty_fo25_3 x
theorem Tryd.ty_bu25 (parts : List (Nat × AV)) : aBuild Tryd.prog 25 parts = (fillA (fun i => ([(0, 1), (1, 1), (2, 1), (3, 1)] : List (Nat × Nat))[i]?) [.int .i64 0, .int .i64 0, .int .i64 0, .sl true []] parts).map .agg := aBuild_struct (by kernel_rfl) (by kernel_rfl)
theorem Tryd.ty_size26 : tsize Tryd.prog 26 = some 1 := by kernel_rfl
theorem Tryd.ty_agg26 : tagg Tryd.prog 26 = some false := by kernel_rfl
theorem Tryd.ty_zero26 : tzero Tryd.prog 26 = some .nilfn := by kernel_rfl
theorem Tryd.ty_size27 : tsize Tryd.prog 27 = some 1 := by kernel_rfl
theorem Tryd.ty_bytes27 : tbytes Tryd.prog 27 = some 24 := by kernel_rfl
theorem Tryd.ty_agg27 : tagg Tryd.prog 27 = some false := by kernel_rfl
theorem Tryd.ty_zero27 : tzero Tryd.prog 27 = some (.sl true []) := by kernel_rfl
theorem Tryd.ty_elem27 : elemOf' Tryd.prog 27 = some 22 := by kernel_rfl
theorem Tryd.ty_sl27 : isSlice Tryd.prog 27 = true := by kernel_rfl
theorem Tryd.ty_ni27 : notInt Tryd.prog 27 = true := by kernel_rfl
theorem Tryd.ty_b27 : isBool Tryd.prog 27 = false := by kernel_rfl
theorem Tryd.ty_u27 : Tryd.prog.underlying 27 = some (.slice 22) := by kernel_rfl
theorem Tryd.ty_size28 : tsize Tryd.prog 28 = some 1 := by kernel_rfl
theorem Tryd.ty_agg28 : tagg Tryd.prog 28 = some false := by kernel_rfl
theorem Tryd.ty_zero28 : tzero Tryd.prog 28 = some .nilfn := by kernel_rfl
theorem Tryd.ty_size30 : tsize Tryd.prog 30 = some 1 := by kernel_rfl
theorem Tryd.ty_agg30 : tagg Tryd.prog 30 = some false := by kernel_rfl
theorem Tryd.ty_zero30 : tzero Tryd.prog 30 = some .nilfn := by kernel_rfl
theorem Tryd.ty_size31 : tsize Tryd.prog 31 = some 1 := by kernel_rfl
theorem Tryd.ty_agg31 : tagg Tryd.prog 31 = some false := by kernel_rfl
theorem Tryd.ty_zero31 : tzero Tryd.prog 31 = some .nilfn := by kernel_rfl
theorem Tryd.ty_size32 : tsize Tryd.prog 32 = some 1 := by kernel_rfl
theorem Tryd.ty_agg32 : tagg Tryd.prog 32 = some false := by kernel_rfl
theorem Tryd.ty_zero32 : tzero Tryd.prog 32 = some .nilfn := by kernel_rfl
theorem Tryd.ty_size33 : tsize Tryd.prog 33 = some 1 := by kernel_rfl
theorem Tryd.ty_agg33 : tagg Tryd.prog 33 = some false := by kernel_rfl
theorem Tryd.ty_zero33 : tzero Tryd.prog 33 = some .nilfn := by kernel_rfl
theorem Tryd.ty_size34 : tsize Tryd.prog 34 = some 1 := by kernel_rfl
theorem Tryd.ty_agg34 : tagg Tryd.prog 34 = some false := by kernel_rfl
theorem Tryd.ty_zero34 : tzero Tryd.prog 34 = some .nilfn := by kernel_rfl
theorem Tryd.ty_size35 : tsize Tryd.prog 35 = some 1 := by kernel_rfl
theorem Tryd.ty_agg35 : tagg Tryd.prog 35 = some false := by kernel_rfl
theorem Tryd.ty_zero35 : tzero Tryd.prog 35 = some .nilfn := by kernel_rfl
theorem Tryd.ty_size36 : tsize Tryd.prog 36 = some 1 := by kernel_rfl
theorem Tryd.ty_agg36 : tagg Tryd.prog 36 = some false := by kernel_rfl
theorem Tryd.ty_zero36 : tzero Tryd.prog 36 = some .nilfn := by kernel_rfl
theorem Tryd.ty_size37 : tsize Tryd.prog 37 = some 1 := by kernel_rfl
theorem Tryd.ty_agg37 : tagg Tryd.prog 37 = some false := by kernel_rfl
theorem Tryd.ty_zero37 : tzero Tryd.prog 37 = some .nilfn := by kernel_rfl
theorem Tryd.ty_size38 : tsize Tryd.prog 38 = some 1 := by kernel_rfl
theorem Tryd.ty_bytes38 : tbytes Tryd.prog 38 = some 8 := by kernel_rfl
theorem Tryd.ty_agg38 : tagg Tryd.prog 38 = some false := by kernel_rfl
theorem Tryd.ty_zero38 : tzero Tryd.prog 38 = some (.int .i64 0) := by kernel_rfl
theorem Tryd.ty_sl38 : isSlice Tryd.prog 38 = false := by kernel_rfl
theorem Tryd.ty_b38 : isBool Tryd.prog 38 = false := by kernel_rfl
theorem Tryd.ty_u38 : Tryd.prog.underlying 38 = some (.int .i64) := by kernel_rfl
theorem Tryd.ty_size40 : tsize Tryd.prog 40 = some 1 := by kernel_rfl
theorem Tryd.ty_agg40 : tagg Tryd.prog 40 = some false := by kernel_rfl
theorem Tryd.ty_zero40 : tzero Tryd.prog 40 = some .nilfn := by kernel_rfl
theorem Tryd.ty_size41 : tsize Tryd.prog 41 = some 1 := by kernel_rfl
theorem Tryd.ty_bytes41 : tbytes Tryd.prog 41 = some 24 := by kernel_rfl
theorem Tryd.ty_agg41 : tagg Tryd.prog 41 = some false := by kernel_rfl
theorem Tryd.ty_zero41 : tzero Tryd.prog 41 = some (.sl true []) := by kernel_rfl
theorem Tryd.ty_elem41 : elemOf' Tryd.prog 41 = some 50 := by kernel_rfl
theorem Tryd.ty_sl41 : isSlice Tryd.prog 41 = true := by kernel_rfl
theorem Tryd.ty_ni41 : notInt Tryd.prog 41 = true := by kernel_rfl
theorem Tryd.ty_b41 : isBool Tryd.prog 41 = false := by kernel_rfl
theorem Tryd.ty_u41 : Tryd.prog.underlying 41 = some (.slice 50) := by kernel_rfl
theorem Tryd.ty_size42 : tsize Tryd.prog 42 = some 2 := by kernel_rfl
theorem Tryd.ty_bytes42 : tbytes Tryd.prog 42 = some 32 := by kernel_rfl
theorem Tryd.ty_agg42 : tagg Tryd.prog 42 = some true := by kernel_rfl
theorem Tryd.ty_zero42 : tzero Tryd.prog 42 = some (.agg [.int .i64 0, .sl true []]) := by kernel_rfl
theorem Tryd.ty_sl42 : isSlice Tryd.prog 42 = false := by kernel_rfl
theorem Tryd.ty_b42 : isBool Tryd.prog 42 = false := by kernel_rfl
theorem Tryd.ty_f42_0 : (fieldOf Tryd.prog 42 0).map (fun d => (d.type, d.offset)) = some (3, 0) := by kernel_rfl
theorem Tryd.ty_fo42_0 : ∃ d, fieldOf Tryd.prog 42 0 = some d ∧ d.type = 3 ∧ d.offset = 0 := fieldOf_some Tryd.ty_f42_0
theorem Tryd.ty_fa42_0 (x : AV) (rows : Nat → ARow) : aFieldAddr Tryd.prog 42 x 0 rows = fieldAddrA Tryd.prog 3 0 x rows := aFieldAddr_of Tryd.ty_fo42_0 x rows
theorem Tryd.ty_ff42_0 (x : AV) : aField Tryd.prog 42 x 0 = fieldA Tryd.prog 3 0 x := aField_of Tryd.ty_fo42_0 x
theorem Tryd.ty_f42_1 : (fieldOf Tryd.prog 42 1).map (fun d => (d.type, d.offset)) = some (41, 1) := by kernel_rfl
theorem Tryd.ty_fo42_1 : ∃ d, fieldOf Tryd.prog 42 1 = some d ∧ d.type = 41 ∧ d.offset = 1 := fieldOf_some Tryd.ty_f42_1
theorem Tryd.ty_fa42_1 (x : AV) (rows : Nat → ARow) : aFieldAddr Tryd.prog 42 x 1 rows = fieldAddrA Tryd.prog 41 1 x rows := aFieldAddr_of Tryd.ty_fo42_1 x rows
theorem Tryd.ty_ff42_1 (x : AV) : aField Tryd.prog 42 x 1 = fieldA Tryd.prog 41 1 x := aField_of Tryd.ty_fo42_1 x
theorem Tryd.ty_bu42 (parts : List (Nat × AV)) : aBuild Tryd.prog 42 parts = (fillA (fun i => ([(0, 1), (1, 1)] : List (Nat × Nat))[i]?) [.int .i64 0, .sl true []] parts).map .agg := aBuild_struct (by kernel_rfl) (by kernel_rfl)
theorem Tryd.ty_size43 : tsize Tryd.prog 43 = some 2 := by kernel_rfl
theorem Tryd.ty_bytes43 : tbytes Tryd.prog 43 = some 32 := by kernel_rfl
theorem Tryd.ty_agg43 : tagg Tryd.prog 43 = some true := by kernel_rfl
theorem Tryd.ty_zero43 : tzero Tryd.prog 43 = some (.agg [.int .i64 0, .sl true []]) := by kernel_rfl
theorem Tryd.ty_sl43 : isSlice Tryd.prog 43 = false := by kernel_rfl
theorem Tryd.ty_b43 : isBool Tryd.prog 43 = false := by kernel_rfl
theorem Tryd.ty_f43_0 : (fieldOf Tryd.prog 43 0).map (fun d => (d.type, d.offset)) = some (3, 0) := by kernel_rfl
theorem Tryd.ty_fo43_0 : ∃ d, fieldOf Tryd.prog 43 0 = some d ∧ d.type = 3 ∧ d.offset = 0 := fieldOf_some Tryd.ty_f43_0
theorem Tryd.ty_fa43_0 (x : AV) (rows : Nat → ARow) : aFieldAddr Tryd.prog 43 x 0 rows = fieldAddrA Tryd.prog 3 0 x rows := aFieldAddr_of Tryd.ty_fo43_0 x rows
theorem Tryd.ty_ff43_0 (x : AV) : aField Tryd.prog 43 x 0 = fieldA Tryd.prog 3 0 x := aField_of Tryd.ty_fo43_0 x
theorem Tryd.ty_f43_1 : (fieldOf Tryd.prog 43 1).map (fun d => (d.type, d.offset)) = some (41, 1) := by kernel_rfl
theorem Tryd.ty_fo43_1 : ∃ d, fieldOf Tryd.prog 43 1 = some d ∧ d.type = 41 ∧ d.offset = 1 := fieldOf_some Tryd.ty_f43_1
theorem Tryd.ty_fa43_1 (x : AV) (rows : Nat → ARow) : aFieldAddr Tryd.prog 43 x 1 rows = fieldAddrA Tryd.prog 41 1 x rows := aFieldAddr_of Tryd.ty_fo43_1 x rows
theorem Tryd.ty_ff43_1 (x : AV) : aField Tryd.prog 43 x 1 = fieldA Tryd.prog 41 1 x := aField_of Tryd.ty_fo43_1 x
theorem Tryd.ty_bu43 (parts : List (Nat × AV)) : aBuild Tryd.prog 43 parts = (fillA (fun i => ([(0, 1), (1, 1)] : List (Nat × Nat))[i]?) [.int .i64 0, .sl true []] parts).map .agg := aBuild_struct (by kernel_rfl) (by kernel_rfl)
theorem Tryd.ty_size45 : tsize Tryd.prog 45 = some 1 := by kernel_rfl
theorem Tryd.ty_agg45 : tagg Tryd.prog 45 = some false := by kernel_rfl
theorem Tryd.ty_zero45 : tzero Tryd.prog 45 = some .nilfn := by kernel_rfl
theorem Tryd.ty_size46 : tsize Tryd.prog 46 = some 1 := by kernel_rfl
theorem Tryd.ty_agg46 : tagg Tryd.prog 46 = some false := by kernel_rfl
theorem Tryd.ty_zero46 : tzero Tryd.prog 46 = some .nilfn := by kernel_rfl
theorem Tryd.ty_size47 : tsize Tryd.prog 47 = some 1 := by kernel_rfl
theorem Tryd.ty_agg47 : tagg Tryd.prog 47 = some false := by kernel_rfl
theorem Tryd.ty_zero47 : tzero Tryd.prog 47 = some .nilfn := by kernel_rfl
theorem Tryd.ty_size48 : tsize Tryd.prog 48 = some 1 := by kernel_rfl
theorem Tryd.ty_bytes48 : tbytes Tryd.prog 48 = some 24 := by kernel_rfl
theorem Tryd.ty_agg48 : tagg Tryd.prog 48 = some false := by kernel_rfl
theorem Tryd.ty_zero48 : tzero Tryd.prog 48 = some (.sl true []) := by kernel_rfl
theorem Tryd.ty_elem48 : elemOf' Tryd.prog 48 = some 53 := by kernel_rfl
theorem Tryd.ty_sl48 : isSlice Tryd.prog 48 = true := by kernel_rfl
theorem Tryd.ty_ni48 : notInt Tryd.prog 48 = true := by kernel_rfl
theorem Tryd.ty_b48 : isBool Tryd.prog 48 = false := by kernel_rfl
theorem Tryd.ty_u48 : Tryd.prog.underlying 48 = some (.slice 53) := by kernel_rfl
theorem Tryd.ty_size49 : tsize Tryd.prog 49 = some 4 := by kernel_rfl
theorem Tryd.ty_bytes49 : tbytes Tryd.prog 49 = some 64 := by kernel_rfl
theorem Tryd.ty_agg49 : tagg Tryd.prog 49 = some true := by kernel_rfl
theorem Tryd.ty_zero49 : tzero Tryd.prog 49 = some (.agg [.int .i64 0, .int .i64 0, .sl true [], .sl true []]) := by kernel_rfl
theorem Tryd.ty_sl49 : isSlice Tryd.prog 49 = false := by kernel_rfl
theorem Tryd.ty_b49 : isBool Tryd.prog 49 = false := by kernel_rfl
theorem Tryd.ty_f49_0 : (fieldOf Tryd.prog 49 0).map (fun d => (d.type, d.offset)) = some (3, 0) := by kernel_rfl
theorem Tryd.ty_fo49_0 : ∃ d, fieldOf Tryd.prog 49 0 = some d ∧ d.type = 3 ∧ d.offset = 0 := fieldOf_some Tryd.ty_f49_0
theorem Tryd.ty_fa49_0 (x : AV) (rows : Nat → ARow) : aFieldAddr Tryd.prog 49 x 0 rows = fieldAddrA Tryd.prog 3 0 x rows := aFieldAddr_of Tryd.ty_fo49_0 x rows
theorem Tryd.ty_ff49_0 (x : AV) : aField Tryd.prog 49 x 0 = fieldA Tryd.prog 3 0 x := aField_of Tryd.ty_fo49_0 x
theorem Tryd.ty_f49_1 : (fieldOf Tryd.prog 49 1).map (fun d => (d.type, d.offset)) = some (3, 1) := by kernel_rfl
theorem Tryd.ty_fo49_1 : ∃ d, fieldOf Tryd.prog 49 1 = some d ∧ d.type = 3 ∧ d.offset = 1 := fieldOf_some Tryd.ty_f49_1
theorem Tryd.ty_fa49_1 (x : AV) (rows : Nat → ARow) : aFieldAddr Tryd.prog 49 x 1 rows = fieldAddrA Tryd.prog 3 1 x rows := aFieldAddr_of Tryd.ty_fo49_1 x rows
theorem Tryd.ty_ff49_1 (x : AV) : aField Tryd.prog 49 x 1 = fieldA Tryd.prog 3 1 x := aField_of Tryd.ty_fo49_1 x
theorem Tryd.ty_f49_2 : (fieldOf Tryd.prog 49 2).map (fun d => (d.type, d.offset)) = some (48, 2) := by kernel_rfl
theorem Tryd.ty_fo49_2 : ∃ d, fieldOf Tryd.prog 49 2 = some d ∧ d.type = 48 ∧ d.offset = 2 := fieldOf_some Tryd.ty_f49_2
theorem Tryd.ty_fa49_2 (x : AV) (rows : Nat → ARow) : aFieldAddr Tryd.prog 49 x 2 rows = fieldAddrA Tryd.prog 48 2 x rows := aFieldAddr_of Tryd.ty_fo49_2 x rows
theorem Tryd.ty_ff49_2 (x : AV) : aField Tryd.prog 49 x 2 = fieldA Tryd.prog 48 2 x := aField_of Tryd.ty_fo49_2 x
theorem Tryd.ty_f49_3 : (fieldOf Tryd.prog 49 3).map (fun d => (d.type, d.offset)) = some (22, 3) := by kernel_rfl
theorem Tryd.ty_fo49_3 : ∃ d, fieldOf Tryd.prog 49 3 = some d ∧ d.type = 22 ∧ d.offset = 3 := fieldOf_some Tryd.ty_f49_3
theorem Tryd.ty_fa49_3 (x : AV) (rows : Nat → ARow) : aFieldAddr Tryd.prog 49 x 3 rows = fieldAddrA Tryd.prog 22 3 x rows := aFieldAddr_of Tryd.ty_fo49_3 x rows
theorem Tryd.ty_ff49_3 (x : AV) : aField Tryd.prog 49 x 3 = fieldA Tryd.prog 22 3 x := aField_of Tryd.ty_fo49_3 x
theorem Tryd.ty_bu49 (parts : List (Nat × AV)) : aBuild Tryd.prog 49 parts = (fillA (fun i => ([(0, 1), (1, 1), (2, 1), (3, 1)] : List (Nat × Nat))[i]?) [.int .i64 0, .int .i64 0, .sl true [], .sl true []] parts).map .agg := aBuild_struct (by kernel_rfl) (by kernel_rfl)
theorem Tryd.ty_size50 : tsize Tryd.prog 50 = some 4 := by kernel_rfl
theorem Tryd.ty_bytes50 : tbytes Tryd.prog 50 = some 64 := by kernel_rfl
theorem Tryd.ty_agg50 : tagg Tryd.prog 50 = some true := by kernel_rfl
theorem Tryd.ty_zero50 : tzero Tryd.prog 50 = some (.agg [.int .i64 0, .int .i64 0, .sl true [], .sl true []]) := by kernel_rfl
theorem Tryd.ty_sl50 : isSlice Tryd.prog 50 = false := by kernel_rfl
theorem Tryd.ty_b50 : isBool Tryd.prog 50 = false := by kernel_rfl
theorem Tryd.ty_f50_0 : (fieldOf Tryd.prog 50 0).map (fun d => (d.type, d.offset)) = some (3, 0) := by kernel_rfl
theorem Tryd.ty_fo50_0 : ∃ d, fieldOf Tryd.prog 50 0 = some d ∧ d.type = 3 ∧ d.offset = 0 := fieldOf_some Tryd.ty_f50_0
theorem Tryd.ty_fa50_0 (x : AV) (rows : Nat → ARow) : aFieldAddr Tryd.prog 50 x 0 rows = fieldAddrA Tryd.prog 3 0 x rows := aFieldAddr_of Tryd.ty_fo50_0 x rows
theorem Tryd.ty_ff50_0 (x : AV) : aField Tryd.prog 50 x 0 = fieldA Tryd.prog 3 0 x := aField_of Tryd.ty_fo50_0 x
theorem Tryd.ty_f50_1 : (fieldOf Tryd.prog 50 1).map (fun d => (d.type, d.offset)) = some (3, 1) := by kernel_rfl
theorem Tryd.ty_fo50_1 : ∃ d, fieldOf Tryd.prog 50 1 = some d ∧ d.type = 3 ∧ d.offset = 1 := fieldOf_some Tryd.ty_f50_1
theorem Tryd.ty_fa50_1 (x : AV) (rows : Nat → ARow) : aFieldAddr Tryd.prog 50 x 1 rows = fieldAddrA Tryd.prog 3 1 x rows := aFieldAddr_of Tryd.ty_fo50_1 x rows
theorem Tryd.ty_ff50_1 (x : AV) : aField Tryd.prog 50 x 1 = fieldA Tryd.prog 3 1 x := aField_of Tryd.ty_fo50_1 x
theorem Tryd.ty_f50_2 : (fieldOf Tryd.prog 50 2).map (fun d => (d.type, d.offset)) = some (48, 2) := by kernel_rfl
theorem Tryd.ty_fo50_2 : ∃ d, fieldOf Tryd.prog 50 2 = some d ∧ d.type = 48 ∧ d.offset = 2 := fieldOf_some Tryd.ty_f50_2
theorem Tryd.ty_fa50_2 (x : AV) (rows : Nat → ARow) : aFieldAddr Tryd.prog 50 x 2 rows = fieldAddrA Tryd.prog 48 2 x rows := aFieldAddr_of Tryd.ty_fo50_2 x rows
theorem Tryd.ty_ff50_2 (x : AV) : aField Tryd.prog 50 x 2 = fieldA Tryd.prog 48 2 x := aField_of Tryd.ty_fo50_2 x
theorem Tryd.ty_f50_3 : (fieldOf Tryd.prog 50 3).map (fun d => (d.type, d.offset)) = some (22, 3) := by kernel_rfl
theorem Tryd.ty_fo50_3 : ∃ d, fieldOf Tryd.prog 50 3 = some d ∧ d.type = 22 ∧ d.offset = 3 := fieldOf_some Tryd.ty_f50_3
theorem Tryd.ty_fa50_3 (x : AV) (rows : Nat → ARow) : aFieldAddr Tryd.prog 50 x 3 rows = fieldAddrA Tryd.prog 22 3 x rows := aFieldAddr_of Tryd.ty_fo50_3 x rows
theorem Tryd.ty_ff50_3 (x : AV) : aField Tryd.prog 50 x 3 = fieldA Tryd.prog 22 3 x := aField_of Tryd.ty_fo50_3 x
theorem Tryd.ty_bu50 (parts : List (Nat × AV)) : aBuild Tryd.prog 50 parts = (fillA (fun i => ([(0, 1), (1, 1), (2, 1), (3, 1)] : List (Nat × Nat))[i]?) [.int .i64 0, .int .i64 0, .sl true [], .sl true []] parts).map .agg := aBuild_struct (by kernel_rfl) (by kernel_rfl)
theorem Tryd.ty_size51 : tsize Tryd.prog 51 = some 1 := by kernel_rfl
theorem Tryd.ty_agg51 : tagg Tryd.prog 51 = some false := by kernel_rfl
theorem Tryd.ty_zero51 : tzero Tryd.prog 51 = some .nilfn := by kernel_rfl
theorem Tryd.ty_size52 : tsize Tryd.prog 52 = some 3 := by kernel_rfl
theorem Tryd.ty_bytes52 : tbytes Tryd.prog 52 = some 24 := by kernel_rfl
theorem Tryd.ty_agg52 : tagg Tryd.prog 52 = some true := by kernel_rfl
theorem Tryd.ty_zero52 : tzero Tryd.prog 52 = some (.agg [.int .i64 0, .int .i64 0, .int .i64 0]) := by kernel_rfl
theorem Tryd.ty_sl52 : isSlice Tryd.prog 52 = false := by kernel_rfl
theorem Tryd.ty_b52 : isBool Tryd.prog 52 = false := by kernel_rfl
theorem Tryd.ty_f52_0 : (fieldOf Tryd.prog 52 0).map (fun d => (d.type, d.offset)) = some (3, 0) := by kernel_rfl
theorem Tryd.ty_fo52_0 : ∃ d, fieldOf Tryd.prog 52 0 = some d ∧ d.type = 3 ∧ d.offset = 0 := fieldOf_some Tryd.ty_f52_0
theorem Tryd.ty_fa52_0 (x : AV) (rows : Nat → ARow) : aFieldAddr Tryd.prog 52 x 0 rows = fieldAddrA Tryd.prog 3 0 x rows := aFieldAddr_of Tryd.ty_fo52_0 x rows
theorem Tryd.ty_ff52_0 (x : AV) : aField Tryd.prog 52 x 0 = fieldA Tryd.prog 3 0 x := aField_of Tryd.ty_fo52_0 x
theorem Tryd.ty_f52_1 : (fieldOf Tryd.prog 52 1).map (fun d => (d.type, d.offset)) = some (3, 1) := by kernel_rfl
theorem Tryd.ty_fo52_1 : ∃ d, fieldOf Tryd.prog 52 1 = some d ∧ d.type = 3 ∧ d.offset = 1 := fieldOf_some Tryd.ty_f52_1
theorem Tryd.ty_fa52_1 (x : AV) (rows : Nat → ARow) : aFieldAddr Tryd.prog 52 x 1 rows = fieldAddrA Tryd.prog 3 1 x rows := aFieldAddr_of Tryd.ty_fo52_1 x rows
theorem Tryd.ty_ff52_1 (x : AV) : aField Tryd.prog 52 x 1 = fieldA Tryd.prog 3 1 x := aField_of Tryd.ty_fo52_1 x
theorem Tryd.ty_f52_2 : (fieldOf Tryd.prog 52 2).map (fun d => (d.type, d.offset)) = some (3, 2) := by kernel_rfl
theorem Tryd.ty_fo52_2 : ∃ d, fieldOf Tryd.prog 52 2 = some d ∧ d.type = 3 ∧ d.offset = 2 := fieldOf_some Tryd.ty_f52_2
theorem Tryd.ty_fa52_2 (x : AV) (rows : Nat → ARow) : aFieldAddr Tryd.prog 52 x 2 rows = fieldAddrA Tryd.prog 3 2 x rows := aFieldAddr_of Tryd.ty_fo52_2 x rows
theorem Tryd.ty_ff52_2 (x : AV) : aField Tryd.prog 52 x 2 = fieldA Tryd.prog 3 2 x := aField_of Tryd.ty_fo52_2 x
theorem Tryd.ty_bu52 (parts : List (Nat × AV)) : aBuild Tryd.prog 52 parts = (fillA (fun i => ([(0, 1), (1, 1), (2, 1)] : List (Nat × Nat))[i]?) [.int .i64 0, .int .i64 0, .int .i64 0] parts).map .agg := aBuild_struct (by kernel_rfl) (by kernel_rfl)
theorem Tryd.ty_size53 : tsize Tryd.prog 53 = some 3 := by kernel_rfl
theorem Tryd.ty_bytes53 : tbytes Tryd.prog 53 = some 24 := by kernel_rfl
theorem Tryd.ty_agg53 : tagg Tryd.prog 53 = some true := by kernel_rfl
theorem Tryd.ty_zero53 : tzero Tryd.prog 53 = some (.agg [.int .i64 0, .int .i64 0, .int .i64 0]) := by kernel_rfl
theorem Tryd.ty_sl53 : isSlice Tryd.prog 53 = false := by kernel_rfl
theorem Tryd.ty_b53 : isBool Tryd.prog 53 = false := by kernel_rfl
theorem Tryd.ty_f53_0 : (fieldOf Tryd.prog 53 0).map (fun d => (d.type, d.offset)) = some (3, 0) := by kernel_rfl
theorem Tryd.ty_fo53_0 : ∃ d, fieldOf Tryd.prog 53 0 = some d ∧ d.type = 3 ∧ d.offset = 0 := fieldOf_some Tryd.ty_f53_0
theorem Tryd.ty_fa53_0 (x : AV) (rows : Nat → ARow) : aFieldAddr Tryd.prog 53 x 0 rows = fieldAddrA Tryd.prog 3 0 x rows := aFieldAddr_of Tryd.ty_fo53_0 x rows
theorem Tryd.ty_ff53_0 (x : AV) : aField Tryd.prog 53 x 0 = fieldA Tryd.prog 3 0 x := aField_of Tryd.ty_fo53_0 x
theorem Tryd.ty_f53_1 : (fieldOf Tryd.prog 53 1).map (fun d => (d.type, d.offset)) = some (3, 1) := by kernel_rfl
theorem Tryd.ty_fo53_1 : ∃ d, fieldOf Tryd.prog 53 1 = some d ∧ d.type = 3 ∧ d.offset = 1 := fieldOf_some Tryd.ty_f53_1
theorem Tryd.ty_fa53_1 (x : AV) (rows : Nat → ARow) : aFieldAddr Tryd.prog 53 x 1 rows = fieldAddrA Tryd.prog 3 1 x rows := aFieldAddr_of Tryd.ty_fo53_1 x rows
theorem Tryd.ty_ff53_1 (x : AV) : aField Tryd.prog 53 x 1 = fieldA Tryd.prog 3 1 x := aField_of Tryd.ty_fo53_1 x
theorem Tryd.ty_f53_2 : (fieldOf Tryd.prog 53 2).map (fun d => (d.type, d.offset)) = some (3, 2) := by kernel_rfl
theorem Tryd.ty_fo53_2 : ∃ d, fieldOf Tryd.prog 53 2 = some d ∧ d.type = 3 ∧ d.offset = 2 := fieldOf_some Tryd.ty_f53_2
theorem Tryd.ty_fa53_2 (x : AV) (rows : Nat → ARow) : aFieldAddr Tryd.prog 53 x 2 rows = fieldAddrA Tryd.prog 3 2 x rows := aFieldAddr_of Tryd.ty_fo53_2 x rows
theorem Tryd.ty_ff53_2 (x : AV) : aField Tryd.prog 53 x 2 = fieldA Tryd.prog 3 2 x := aField_of Tryd.ty_fo53_2 x
theorem Tryd.ty_bu53 (parts : List (Nat × AV)) : aBuild Tryd.prog 53 parts = (fillA (fun i => ([(0, 1), (1, 1), (2, 1)] : List (Nat × Nat))[i]?) [.int .i64 0, .int .i64 0, .int .i64 0] parts).map .agg := aBuild_struct (by kernel_rfl) (by kernel_rfl)
theorem Tryd.ty_size54 : tsize Tryd.prog 54 = some 1 := by kernel_rfl
theorem Tryd.ty_agg54 : tagg Tryd.prog 54 = some false := by kernel_rfl
theorem Tryd.ty_zero54 : tzero Tryd.prog 54 = some .nilfn := by kernel_rfl
theorem Tryd.ty_size55 : tsize Tryd.prog 55 = some 1 := by kernel_rfl
theorem Tryd.ty_agg55 : tagg Tryd.prog 55 = some false := by kernel_rfl
theorem Tryd.ty_zero55 : tzero Tryd.prog 55 = some .nilfn := by kernel_rfl
theorem Tryd.ty_size56 : tsize Tryd.prog 56 = some 1 := by kernel_rfl
theorem Tryd.ty_agg56 : tagg Tryd.prog 56 = some false := by kernel_rfl
theorem Tryd.ty_zero56 : tzero Tryd.prog 56 = some .nilfn := by kernel_rfl
theorem Tryd.ty_size58 : tsize Tryd.prog 58 = some 1 := by kernel_rfl
theorem Tryd.ty_agg58 : tagg Tryd.prog 58 = some false := by kernel_rfl
theorem Tryd.ty_zero58 : tzero Tryd.prog 58 = some .nilfn := by kernel_rfl
theorem Tryd.ty_size59 : tsize Tryd.prog 59 = some 1 := by kernel_rfl
theorem Tryd.ty_agg59 : tagg Tryd.prog 59 = some false := by kernel_rfl
theorem Tryd.ty_zero59 : tzero Tryd.prog 59 = some .nilfn := by kernel_rfl
theorem Tryd.ty_size60 : tsize Tryd.prog 60 = some 1 := by kernel_rfl
theorem Tryd.ty_agg60 : tagg Tryd.prog 60 = some false := by kernel_rfl
theorem Tryd.ty_zero60 : tzero Tryd.prog 60 = some .nilfn := by kernel_rfl
theorem Tryd.ty_size61 : tsize Tryd.prog 61 = some 1 := by kernel_rfl
theorem Tryd.ty_agg61 : tagg Tryd.prog 61 = some false := by kernel_rfl
theorem Tryd.ty_zero61 : tzero Tryd.prog 61 = some .nilfn := by kernel_rfl
theorem Tryd.ty_size62 : tsize Tryd.prog 62 = some 1 := by kernel_rfl
theorem Tryd.ty_agg62 : tagg Tryd.prog 62 = some false := by kernel_rfl
theorem Tryd.ty_zero62 : tzero Tryd.prog 62 = some .nilfn := by kernel_rfl
theorem Tryd.ty_size63 : tsize Tryd.prog 63 = some 1 := by kernel_rfl
theorem Tryd.ty_agg63 : tagg Tryd.prog 63 = some false := by kernel_rfl
theorem Tryd.ty_zero63 : tzero Tryd.prog 63 = some .nilfn := by kernel_rfl
theorem Tryd.ty_size64 : tsize Tryd.prog 64 = some 1 := by kernel_rfl
theorem Tryd.ty_bytes64 : tbytes Tryd.prog 64 = some 8 := by kernel_rfl
theorem Tryd.ty_agg64 : tagg Tryd.prog 64 = some false := by kernel_rfl
theorem Tryd.ty_zero64 : tzero Tryd.prog 64 = some (.nilptr) := by kernel_rfl
theorem Tryd.ty_sl64 : isSlice Tryd.prog 64 = false := by kernel_rfl
theorem Tryd.ty_b64 : isBool Tryd.prog 64 = false := by kernel_rfl
theorem Tryd.ty_size65 : tsize Tryd.prog 65 = some 3 := by kernel_rfl
theorem Tryd.ty_bytes65 : tbytes Tryd.prog 65 = some 40 := by kernel_rfl
theorem Tryd.ty_agg65 : tagg Tryd.prog 65 = some true := by kernel_rfl
theorem Tryd.ty_zero65 : tzero Tryd.prog 65 = some (.agg [.sl true [], .int .i64 0, .int .i64 0]) := by kernel_rfl
theorem Tryd.ty_sl65 : isSlice Tryd.prog 65 = false := by kernel_rfl
theorem Tryd.ty_b65 : isBool Tryd.prog 65 = false := by kernel_rfl
theorem Tryd.ty_f65_0 : (fieldOf Tryd.prog 65 0).map (fun d => (d.type, d.offset)) = some (22, 0) := by kernel_rfl
theorem Tryd.ty_fo65_0 : ∃ d, fieldOf Tryd.prog 65 0 = some d ∧ d.type = 22 ∧ d.offset = 0 := fieldOf_some Tryd.ty_f65_0
theorem Tryd.ty_fa65_0 (x : AV) (rows : Nat → ARow) : aFieldAddr Tryd.prog 65 x 0 rows = fieldAddrA Tryd.prog 22 0 x rows := aFieldAddr_of Tryd.ty_fo65_0 x rows
theorem Tryd.ty_ff65_0 (x : AV) : aField Tryd.prog 65 x 0 = fieldA Tryd.prog 22 0 x := aField_of Tryd.ty_fo65_0 x
theorem Tryd.ty_f65_1 : (fieldOf Tryd.prog 65 1).map (fun d => (d.type, d.offset)) = some (3, 1) := by kernel_rfl
theorem Tryd.ty_fo65_1 : ∃ d, fieldOf Tryd.prog 65 1 = some d ∧ d.type = 3 ∧ d.offset = 1 := fieldOf_some Tryd.ty_f65_1
theorem Tryd.ty_fa65_1 (x : AV) (rows : Nat → ARow) : aFieldAddr Tryd.prog 65 x 1 rows = fieldAddrA Tryd.prog 3 1 x rows := aFieldAddr_of Tryd.ty_fo65_1 x rows
theorem Tryd.ty_ff65_1 (x : AV) : aField Tryd.prog 65 x 1 = fieldA Tryd.prog 3 1 x := aField_of Tryd.ty_fo65_1 x
theorem Tryd.ty_f65_2 : (fieldOf Tryd.prog 65 2).map (fun d => (d.type, d.offset)) = some (3, 2) := by kernel_rfl
theorem Tryd.ty_fo65_2 : ∃ d, fieldOf Tryd.prog 65 2 = some d ∧ d.type = 3 ∧ d.offset = 2 := fieldOf_some Tryd.ty_f65_2
theorem Tryd.ty_fa65_2 (x : AV) (rows : Nat → ARow) : aFieldAddr Tryd.prog 65 x 2 rows = fieldAddrA Tryd.prog 3 2 x rows := aFieldAddr_of Tryd.ty_fo65_2 x rows
theorem Tryd.ty_ff65_2 (x : AV) : aField Tryd.prog 65 x 2 = fieldA Tryd.prog 3 2 x := aField_of Tryd.ty_fo65_2 x
theorem Tryd.ty_bu65 (parts : List (Nat × AV)) : aBuild Tryd.prog 65 parts = (fillA (fun i => ([(0, 1), (1, 1), (2, 1)] : List (Nat × Nat))[i]?) [.sl true [], .int .i64 0, .int .i64 0] parts).map .agg := aBuild_struct (by kernel_rfl) (by kernel_rfl)
theorem Tryd.ty_size66 : tsize Tryd.prog 66 = some 3 := by kernel_rfl
theorem Tryd.ty_bytes66 : tbytes Tryd.prog 66 = some 40 := by kernel_rfl
theorem Tryd.ty_agg66 : tagg Tryd.prog 66 = some true := by kernel_rfl
theorem Tryd.ty_zero66 : tzero Tryd.prog 66 = some (.agg [.sl true [], .int .i64 0, .int .i64 0]) := by kernel_rfl
theorem Tryd.ty_sl66 : isSlice Tryd.prog 66 = false := by kernel_rfl
theorem Tryd.ty_b66 : isBool Tryd.prog 66 = false := by kernel_rfl
theorem Tryd.ty_f66_0 : (fieldOf Tryd.prog 66 0).map (fun d => (d.type, d.offset)) = some (22, 0) := by kernel_rfl
theorem Tryd.ty_fo66_0 : ∃ d, fieldOf Tryd.prog 66 0 = some d ∧ d.type = 22 ∧ d.offset = 0 := fieldOf_some Tryd.ty_f66_0
theorem Tryd.ty_fa66_0 (x : AV) (rows : Nat → ARow) : aFieldAddr Tryd.prog 66 x 0 rows = fieldAddrA Tryd.prog 22 0 x rows := aFieldAddr_of Tryd.ty_fo66_0 x rows
theorem Tryd.ty_ff66_0 (x : AV) : aField Tryd.prog 66 x 0 = fieldA Tryd.prog 22 0 x := aField_of Tryd.ty_fo66_0 x
theorem Tryd.ty_f66_1 : (fieldOf Tryd.prog 66 1).map (fun d => (d.type, d.offset)) = some (3, 1) := by kernel_rfl
theorem Tryd.ty_fo66_1 : ∃ d, fieldOf Tryd.prog 66 1 = some d ∧ d.type = 3 ∧ d.offset = 1 := fieldOf_some Tryd.ty_f66_1
theorem Tryd.ty_fa66_1 (x : AV) (rows : Nat → ARow) : aFieldAddr Tryd.prog 66 x 1 rows = fieldAddrA Tryd.prog 3 1 x rows := aFieldAddr_of Tryd.ty_fo66_1 x rows
theorem Tryd.ty_ff66_1 (x : AV) : aField Tryd.prog 66 x 1 = fieldA Tryd.prog 3 1 x := aField_of Tryd.ty_fo66_1 x
theorem Tryd.ty_f66_2 : (fieldOf Tryd.prog 66 2).map (fun d => (d.type, d.offset)) = some (3, 2) := by kernel_rfl
theorem Tryd.ty_fo66_2 : ∃ d, fieldOf Tryd.prog 66 2 = some d ∧ d.type = 3 ∧ d.offset = 2 := fieldOf_some Tryd.ty_f66_2
theorem Tryd.ty_fa66_2 (x : AV) (rows : Nat → ARow) : aFieldAddr Tryd.prog 66 x 2 rows = fieldAddrA Tryd.prog 3 2 x rows := aFieldAddr_of Tryd.ty_fo66_2 x rows
theorem Tryd.ty_ff66_2 (x : AV) : aField Tryd.prog 66 x 2 = fieldA Tryd.prog 3 2 x := aField_of Tryd.ty_fo66_2 x
theorem Tryd.ty_bu66 (parts : List (Nat × AV)) : aBuild Tryd.prog 66 parts = (fillA (fun i => ([(0, 1), (1, 1), (2, 1)] : List (Nat × Nat))[i]?) [.sl true [], .int .i64 0, .int .i64 0] parts).map .agg := aBuild_struct (by kernel_rfl) (by kernel_rfl)
theorem Tryd.ty_size67 : tsize Tryd.prog 67 = some 1 := by kernel_rfl
theorem Tryd.ty_agg67 : tagg Tryd.prog 67 = some false := by kernel_rfl
theorem Tryd.ty_zero67 : tzero Tryd.prog 67 = some .nilfn := by kernel_rfl
theorem Tryd.ty_size68 : tsize Tryd.prog 68 = some 1 := by kernel_rfl
theorem Tryd.ty_bytes68 : tbytes Tryd.prog 68 = some 8 := by kernel_rfl
theorem Tryd.ty_agg68 : tagg Tryd.prog 68 = some false := by kernel_rfl
theorem Tryd.ty_zero68 : tzero Tryd.prog 68 = some (.nilptr) := by kernel_rfl
theorem Tryd.ty_sl68 : isSlice Tryd.prog 68 = false := by kernel_rfl
theorem Tryd.ty_b68 : isBool Tryd.prog 68 = false := by kernel_rfl
theorem Tryd.ty_size69 : tsize Tryd.prog 69 = some 3 := by kernel_rfl
theorem Tryd.ty_bytes69 : tbytes Tryd.prog 69 = some 40 := by kernel_rfl
theorem Tryd.ty_agg69 : tagg Tryd.prog 69 = some true := by kernel_rfl
theorem Tryd.ty_zero69 : tzero Tryd.prog 69 = some (.agg [.sl true [], .int .i64 0, .int .i64 0]) := by kernel_rfl
theorem Tryd.ty_sl69 : isSlice Tryd.prog 69 = false := by kernel_rfl
theorem Tryd.ty_b69 : isBool Tryd.prog 69 = false := by kernel_rfl
theorem Tryd.ty_f69_0 : (fieldOf Tryd.prog 69 0).map (fun d => (d.type, d.offset)) = some (22, 0) := by kernel_rfl
theorem Tryd.ty_fo69_0 : ∃ d, fieldOf Tryd.prog 69 0 = some d ∧ d.type = 22 ∧ d.offset = 0 := fieldOf_some Tryd.ty_f69_0
theorem Tryd.ty_fa69_0 (x : AV) (rows : Nat → ARow) : aFieldAddr Tryd.prog 69 x 0 rows = fieldAddrA Tryd.prog 22 0 x rows := aFieldAddr_of Tryd.ty_fo69_0 x rows
theorem Tryd.ty_ff69_0 (x : AV) : aField Tryd.prog 69 x 0 = fieldA Tryd.prog 22 0 x := aField_of Tryd.ty_fo69_0 x
theorem Tryd.ty_f69_1 : (fieldOf Tryd.prog 69 1).map (fun d => (d.type, d.offset)) = some (3, 1) := by kernel_rfl
theorem Tryd.ty_fo69_1 : ∃ d, fieldOf Tryd.prog 69 1 = some d ∧ d.type = 3 ∧ d.offset = 1 := fieldOf_some Tryd.ty_f69_1
theorem Tryd.ty_fa69_1 (x : AV) (rows : Nat → ARow) : aFieldAddr Tryd.prog 69 x 1 rows = fieldAddrA Tryd.prog 3 1 x rows := aFieldAddr_of Tryd.ty_fo69_1 x rows
theorem Tryd.ty_ff69_1 (x : AV) : aField Tryd.prog 69 x 1 = fieldA Tryd.prog 3 1 x := aField_of Tryd.ty_fo69_1 x
theorem Tryd.ty_f69_2 : (fieldOf Tryd.prog 69 2).map (fun d => (d.type, d.offset)) = some (3, 2) := by kernel_rfl
theorem Tryd.ty_fo69_2 : ∃ d, fieldOf Tryd.prog 69 2 = some d ∧ d.type = 3 ∧ d.offset = 2 := fieldOf_some Tryd.ty_f69_2
theorem Tryd.ty_fa69_2 (x : AV) (rows : Nat → ARow) : aFieldAddr Tryd.prog 69 x 2 rows = fieldAddrA Tryd.prog 3 2 x rows := aFieldAddr_of Tryd.ty_fo69_2 x rows
theorem Tryd.ty_ff69_2 (x : AV) : aField Tryd.prog 69 x 2 = fieldA Tryd.prog 3 2 x := aField_of Tryd.ty_fo69_2 x
theorem Tryd.ty_bu69 (parts : List (Nat × AV)) : aBuild Tryd.prog 69 parts = (fillA (fun i => ([(0, 1), (1, 1), (2, 1)] : List (Nat × Nat))[i]?) [.sl true [], .int .i64 0, .int .i64 0] parts).map .agg := aBuild_struct (by kernel_rfl) (by kernel_rfl)
theorem Tryd.ty_size70 : tsize Tryd.prog 70 = some 3 := by kernel_rfl
theorem Tryd.ty_bytes70 : tbytes Tryd.prog 70 = some 40 := by kernel_rfl
theorem Tryd.ty_agg70 : tagg Tryd.prog 70 = some true := by kernel_rfl
theorem Tryd.ty_zero70 : tzero Tryd.prog 70 = some (.agg [.sl true [], .int .i64 0, .int .i64 0]) := by kernel_rfl
theorem Tryd.ty_sl70 : isSlice Tryd.prog 70 = false := by kernel_rfl
theorem Tryd.ty_b70 : isBool Tryd.prog 70 = false := by kernel_rfl
theorem Tryd.ty_f70_0 : (fieldOf Tryd.prog 70 0).map (fun d => (d.type, d.offset)) = some (22, 0) := by kernel_rfl
theorem Tryd.ty_fo70_0 : ∃ d, fieldOf Tryd.prog 70 0 = some d ∧ d.type = 22 ∧ d.offset = 0 := fieldOf_some Tryd.ty_f70_0
theorem Tryd.ty_fa70_0 (x : AV) (rows : Nat → ARow) : aFieldAddr Tryd.prog 70 x 0 rows = fieldAddrA Tryd.prog 22 0 x rows := aFieldAddr_of Tryd.ty_fo70_0 x rows
theorem Tryd.ty_ff70_0 (x : AV) : aField Tryd.prog 70 x 0 = fieldA Tryd.prog 22 0 x := aField_of Tryd.ty_fo70_0 x
theorem Tryd.ty_f70_1 : (fieldOf Tryd.prog 70 1).map (fun d => (d.type, d.offset)) = some (3, 1) := by kernel_rfl
theorem Tryd.ty_fo70_1 : ∃ d, fieldOf Tryd.prog 70 1 = some d ∧ d.type = 3 ∧ d.offset = 1 := fieldOf_some Tryd.ty_f70_1
theorem Tryd.ty_fa70_1 (x : AV) (rows : Nat → ARow) : aFieldAddr Tryd.prog 70 x 1 rows = fieldAddrA Tryd.prog 3 1 x rows := aFieldAddr_of Tryd.ty_fo70_1 x rows
theorem Tryd.ty_ff70_1 (x : AV) : aField Tryd.prog 70 x 1 = fieldA Tryd.prog 3 1 x := aField_of Tryd.ty_fo70_1 x
theorem Tryd.ty_f70_2 : (fieldOf Tryd.prog 70 2).map (fun d => (d.type, d.offset)) = some (3, 2) := by kernel_rfl
theorem Tryd.ty_fo70_2 : ∃ d, fieldOf Tryd.prog 70 2 = some d ∧ d.type = 3 ∧ d.offset = 2 := fieldOf_some Tryd.ty_f70_2
theorem Tryd.ty_fa70_2 (x : AV) (rows : Nat → ARow) : aFieldAddr Tryd.prog 70 x 2 rows = fieldAddrA Tryd.prog 3 2 x rows := aFieldAddr_of Tryd.ty_fo70_2 x rows
theorem Tryd.ty_ff70_2 (x : AV) : aField Tryd.prog 70 x 2 = fieldA Tryd.prog 3 2 x := aField_of Tryd.ty_fo70_2 x
theorem Tryd.ty_bu70 (parts : List (Nat × AV)) : aBuild Tryd.prog 70 parts = (fillA (fun i => ([(0, 1), (1, 1), (2, 1)] : List (Nat × Nat))[i]?) [.sl true [], .int .i64 0, .int .i64 0] parts).map .agg := aBuild_struct (by kernel_rfl) (by kernel_rfl)
theorem Tryd.ty_size72 : tsize Tryd.prog 72 = some 1 := by kernel_rfl
theorem Tryd.ty_agg72 : tagg Tryd.prog 72 = some false := by kernel_rfl
theorem Tryd.ty_zero72 : tzero Tryd.prog 72 = some .nilfn := by kernel_rfl
theorem Tryd.ty_size73 : tsize Tryd.prog 73 = some 1 := by kernel_rfl
theorem Tryd.ty_bytes73 : tbytes Tryd.prog 73 = some 24 := by kernel_rfl
theorem Tryd.ty_agg73 : tagg Tryd.prog 73 = some false := by kernel_rfl
theorem Tryd.ty_zero73 : tzero Tryd.prog 73 = some (.sl true []) := by kernel_rfl
theorem Tryd.ty_elem73 : elemOf' Tryd.prog 73 = some 75 := by kernel_rfl
theorem Tryd.ty_sl73 : isSlice Tryd.prog 73 = true := by kernel_rfl
theorem Tryd.ty_ni73 : notInt Tryd.prog 73 = true := by kernel_rfl
theorem Tryd.ty_b73 : isBool Tryd.prog 73 = false := by kernel_rfl
theorem Tryd.ty_u73 : Tryd.prog.underlying 73 = some (.slice 75) := by kernel_rfl
theorem Tryd.ty_size74 : tsize Tryd.prog 74 = some 6 := by kernel_rfl
theorem Tryd.ty_bytes74 : tbytes Tryd.prog 74 = some 64 := by kernel_rfl
theorem Tryd.ty_agg74 : tagg Tryd.prog 74 = some true := by kernel_rfl
theorem Tryd.ty_zero74 : tzero Tryd.prog 74 = some (.agg [.int .i64 0, .int .i64 0, .int .i64 0, .int .i64 0, .bool false, .sl true []]) := by kernel_rfl
theorem Tryd.ty_sl74 : isSlice Tryd.prog 74 = false := by kernel_rfl
theorem Tryd.ty_b74 : isBool Tryd.prog 74 = false := by kernel_rfl
theorem Tryd.ty_f74_0 : (fieldOf Tryd.prog 74 0).map (fun d => (d.type, d.offset)) = some (3, 0) := by kernel_rfl
theorem Tryd.ty_fo74_0 : ∃ d, fieldOf Tryd.prog 74 0 = some d ∧ d.type = 3 ∧ d.offset = 0 := fieldOf_some Tryd.ty_f74_0
theorem Tryd.ty_fa74_0 (x : AV) (rows : Nat → ARow) : aFieldAddr Tryd.prog 74 x 0 rows = fieldAddrA Tryd.prog 3 0 x rows := aFieldAddr_of Tryd.ty_fo74_0 x rows
theorem Tryd.ty_ff74_0 (x : AV) : aField Tryd.prog 74 x 0 = fieldA Tryd.prog 3 0 x := aField_of Tryd.ty_fo74_0 x
theorem Tryd.ty_f74_1 : (fieldOf Tryd.prog 74 1).map (fun d => (d.type, d.offset)) = some (3, 1) := by kernel_rfl
theorem Tryd.ty_fo74_1 : ∃ d, fieldOf Tryd.prog 74 1 = some d ∧ d.type = 3 ∧ d.offset = 1 := fieldOf_some Tryd.ty_f74_1
theorem Tryd.ty_fa74_1 (x : AV) (rows : Nat → ARow) : aFieldAddr Tryd.prog 74 x 1 rows = fieldAddrA Tryd.prog 3 1 x rows := aFieldAddr_of Tryd.ty_fo74_1 x rows
theorem Tryd.ty_ff74_1 (x : AV) : aField Tryd.prog 74 x 1 = fieldA Tryd.prog 3 1 x := aField_of Tryd.ty_fo74_1 x
theorem Tryd.ty_f74_2 : (fieldOf Tryd.prog 74 2).map (fun d => (d.type, d.offset)) = some (3, 2) := by kernel_rfl
theorem Tryd.ty_fo74_2 : ∃ d, fieldOf Tryd.prog 74 2 = some d ∧ d.type = 3 ∧ d.offset = 2 := fieldOf_some Tryd.ty_f74_2
theorem Tryd.ty_fa74_2 (x : AV) (rows : Nat → ARow) : aFieldAddr Tryd.prog 74 x 2 rows = fieldAddrA Tryd.prog 3 2 x rows := aFieldAddr_of Tryd.ty_fo74_2 x rows
theorem Tryd.ty_ff74_2 (x : AV) : aField Tryd.prog 74 x 2 = fieldA Tryd.prog 3 2 x := aField_of Tryd.ty_fo74_2 x
theorem Tryd.ty_f74_3 : (fieldOf Tryd.prog 74 3).map (fun d => (d.type, d.offset)) = some (3, 3) := by kernel_rfl
theorem Tryd.ty_fo74_3 : ∃ d, fieldOf Tryd.prog 74 3 = some d ∧ d.type = 3 ∧ d.offset = 3 := fieldOf_some Tryd.ty_f74_3
theorem Tryd.ty_fa74_3 (x : AV) (rows : Nat → ARow) : aFieldAddr Tryd.prog 74 x 3 rows = fieldAddrA Tryd.prog 3 3 x rows := aFieldAddr_of Tryd.ty_fo74_3 x rows
theorem Tryd.ty_ff74_3 (x : AV) : aField Tryd.prog 74 x 3 = fieldA Tryd.prog 3 3 x := aField_of Tryd.ty_fo74_3 x
theorem Tryd.ty_f74_4 : (fieldOf Tryd.prog 74 4).map (fun d => (d.type, d.offset)) = some (4, 4) := by kernel_rfl
theorem Tryd.ty_fo74_4 : ∃ d, fieldOf Tryd.prog 74 4 = some d ∧ d.type = 4 ∧ d.offset = 4 := fieldOf_some Tryd.ty_f74_4
theorem Tryd.ty_fa74_4 (x : AV) (rows : Nat → ARow) : aFieldAddr Tryd.prog 74 x 4 rows = fieldAddrA Tryd.prog 4 4 x rows := aFieldAddr_of Tryd.ty_fo74_4 x rows
theorem Tryd.ty_ff74_4 (x : AV) : aField Tryd.prog 74 x 4 = fieldA Tryd.prog 4 4 x := aField_of Tryd.ty_fo74_4 x
theorem Tryd.ty_f74_5 : (fieldOf Tryd.prog 74 5).map (fun d => (d.type, d.offset)) = some (73, 5) := by kernel_rfl
theorem Tryd.ty_fo74_5 : ∃ d, fieldOf Tryd.prog 74 5 = some d ∧ d.type = 73 ∧ d.offset = 5 := fieldOf_some Tryd.ty_f74_5
theorem Tryd.ty_fa74_5 (x : AV) (rows : Nat → ARow) : aFieldAddr Tryd.prog 74 x 5 rows = fieldAddrA Tryd.prog 73 5 x rows := aFieldAddr_of Tryd.ty_fo74_5 x rows
theorem Tryd.ty_ff74_5 (x : AV) : aField Tryd.prog 74 x 5 = fieldA Tryd.prog 73 5 x := aField_of Tryd.ty_fo74_5 x
theorem Tryd.ty_bu74 (parts : List (Nat × AV)) : aBuild Tryd.prog 74 parts = (fillA (fun i => ([(0, 1), (1, 1), (2, 1), (3, 1), (4, 1), (5, 1)] : List (Nat × Nat))[i]?) [.int .i64 0, .int .i64 0, .int .i64 0, .int .i64 0, .bool false, .sl true []] parts).map .agg := aBuild_struct (by kernel_rfl) (by kernel_rfl)
theorem Tryd.ty_size75 : tsize Tryd.prog 75 = some 6 := by kernel_rfl
theorem Tryd.ty_bytes75 : tbytes Tryd.prog 75 = some 64 := by kernel_rfl
theorem Tryd.ty_agg75 : tagg Tryd.prog 75 = some true := by kernel_rfl
theorem Tryd.ty_zero75 : tzero Tryd.prog 75 = some (.agg [.int .i64 0, .int .i64 0, .int .i64 0, .int .i64 0, .bool false, .sl true []]) := by kernel_rfl
theorem Tryd.ty_sl75 : isSlice Tryd.prog 75 = false := by kernel_rfl
theorem Tryd.ty_b75 : isBool Tryd.prog 75 = false := by kernel_rfl
theorem Tryd.ty_f75_0 : (fieldOf Tryd.prog 75 0).map (fun d => (d.type, d.offset)) = some (3, 0) := by kernel_rfl
theorem Tryd.ty_fo75_0 : ∃ d, fieldOf Tryd.prog 75 0 = some d ∧ d.type = 3 ∧ d.offset = 0 := fieldOf_some Tryd.ty_f75_0
theorem Tryd.ty_fa75_0 (x : AV) (rows : Nat → ARow) : aFieldAddr Tryd.prog 75 x 0 rows = fieldAddrA Tryd.prog 3 0 x rows := aFieldAddr_of Tryd.ty_fo75_0 x rows
theorem Tryd.ty_ff75_0 (x : AV) : aField Tryd.prog 75 x 0 = fieldA Tryd.prog 3 0 x := aField_of Tryd.ty_fo75_0 x
theorem Tryd.ty_f75_1 : (fieldOf Tryd.prog 75 1).map (fun d => (d.type, d.offset)) = some (3, 1) := by kernel_rfl
theorem Tryd.ty_fo75_1 : ∃ d, fieldOf Tryd.prog 75 1 = some d ∧ d.type = 3 ∧ d.offset = 1 := fieldOf_some Tryd.ty_f75_1
theorem Tryd.ty_fa75_1 (x : AV) (rows : Nat → ARow) : aFieldAddr Tryd.prog 75 x 1 rows = fieldAddrA Tryd.prog 3 1 x rows := aFieldAddr_of Tryd.ty_fo75_1 x rows
theorem Tryd.ty_ff75_1 (x : AV) : aField Tryd.prog 75 x 1 = fieldA Tryd.prog 3 1 x := aField_of Tryd.ty_fo75_1 x
theorem Tryd.ty_f75_2 : (fieldOf Tryd.prog 75 2).map (fun d => (d.type, d.offset)) = some (3, 2) := by kernel_rfl
theorem Tryd.ty_fo75_2 : ∃ d, fieldOf Tryd.prog 75 2 = some d ∧ d.type = 3 ∧ d.offset = 2 := fieldOf_some Tryd.ty_f75_2
theorem Tryd.ty_fa75_2 (x : AV) (rows : Nat → ARow) : aFieldAddr Tryd.prog 75 x 2 rows = fieldAddrA Tryd.prog 3 2 x rows := aFieldAddr_of Tryd.ty_fo75_2 x rows
theorem Tryd.ty_ff75_2 (x : AV) : aField Tryd.prog 75 x 2 = fieldA Tryd.prog 3 2 x := aField_of Tryd.ty_fo75_2 x
theorem Tryd.ty_f75_3 : (fieldOf Tryd.prog 75 3).map (fun d => (d.type, d.offset)) = some (3, 3) := by kernel_rfl
theorem Tryd.ty_fo75_3 : ∃ d, fieldOf Tryd.prog 75 3 = some d ∧ d.type = 3 ∧ d.offset = 3 := fieldOf_some Tryd.ty_f75_3
theorem Tryd.ty_fa75_3 (x : AV) (rows : Nat → ARow) : aFieldAddr Tryd.prog 75 x 3 rows = fieldAddrA Tryd.prog 3 3 x rows := aFieldAddr_of Tryd.ty_fo75_3 x rows
theorem Tryd.ty_ff75_3 (x : AV) : aField Tryd.prog 75 x 3 = fieldA Tryd.prog 3 3 x := aField_of Tryd.ty_fo75_3 x
theorem Tryd.ty_f75_4 : (fieldOf Tryd.prog 75 4).map (fun d => (d.type, d.offset)) = some (4, 4) := by kernel_rfl
theorem Tryd.ty_fo75_4 : ∃ d, fieldOf Tryd.prog 75 4 = some d ∧ d.type = 4 ∧ d.offset = 4 := fieldOf_some Tryd.ty_f75_4
theorem Tryd.ty_fa75_4 (x : AV) (rows : Nat → ARow) : aFieldAddr Tryd.prog 75 x 4 rows = fieldAddrA Tryd.prog 4 4 x rows := aFieldAddr_of Tryd.ty_fo75_4 x rows
theorem Tryd.ty_ff75_4 (x : AV) : aField Tryd.prog 75 x 4 = fieldA Tryd.prog 4 4 x := aField_of Tryd.ty_fo75_4 x
theorem Tryd.ty_f75_5 : (fieldOf Tryd.prog 75 5).map (fun d => (d.type, d.offset)) = some (73, 5) := by kernel_rfl
theorem Tryd.ty_fo75_5 : ∃ d, fieldOf Tryd.prog 75 5 = some d ∧ d.type = 73 ∧ d.offset = 5 := fieldOf_some Tryd.ty_f75_5
theorem Tryd.ty_fa75_5 (x : AV) (rows : Nat → ARow) : aFieldAddr Tryd.prog 75 x 5 rows = fieldAddrA Tryd.prog 73 5 x rows := aFieldAddr_of Tryd.ty_fo75_5 x rows
theorem Tryd.ty_ff75_5 (x : AV) : aField Tryd.prog 75 x 5 = fieldA Tryd.prog 73 5 x := aField_of Tryd.ty_fo75_5 x
theorem Tryd.ty_bu75 (parts : List (Nat × AV)) : aBuild Tryd.prog 75 parts = (fillA (fun i => ([(0, 1), (1, 1), (2, 1), (3, 1), (4, 1), (5, 1)] : List (Nat × Nat))[i]?) [.int .i64 0, .int .i64 0, .int .i64 0, .int .i64 0, .bool false, .sl true []] parts).map .agg := aBuild_struct (by kernel_rfl) (by kernel_rfl)
theorem Tryd.ty_size77 : tsize Tryd.prog 77 = some 1 := by kernel_rfl
theorem Tryd.ty_agg77 : tagg Tryd.prog 77 = some false := by kernel_rfl
theorem Tryd.ty_zero77 : tzero Tryd.prog 77 = some .nilfn := by kernel_rfl
theorem Tryd.ty_size78 : tsize Tryd.prog 78 = some 1 := by kernel_rfl
theorem Tryd.ty_agg78 : tagg Tryd.prog 78 = some false := by kernel_rfl
theorem Tryd.ty_zero78 : tzero Tryd.prog 78 = some .nilfn := by kernel_rfl
theorem Tryd.ty_size79 : tsize Tryd.prog 79 = some 1 := by kernel_rfl
theorem Tryd.ty_agg79 : tagg Tryd.prog 79 = some false := by kernel_rfl
theorem Tryd.ty_zero79 : tzero Tryd.prog 79 = some .nilfn := by kernel_rfl
theorem Tryd.ty_size80 : tsize Tryd.prog 80 = some 1 := by kernel_rfl
theorem Tryd.ty_bytes80 : tbytes Tryd.prog 80 = some 24 := by kernel_rfl
theorem Tryd.ty_agg80 : tagg Tryd.prog 80 = some false := by kernel_rfl
theorem Tryd.ty_zero80 : tzero Tryd.prog 80 = some (.sl true []) := by kernel_rfl
theorem Tryd.ty_elem80 : elemOf' Tryd.prog 80 = some 82 := by kernel_rfl
theorem Tryd.ty_sl80 : isSlice Tryd.prog 80 = true := by kernel_rfl
theorem Tryd.ty_ni80 : notInt Tryd.prog 80 = true := by kernel_rfl
theorem Tryd.ty_b80 : isBool Tryd.prog 80 = false := by kernel_rfl
theorem Tryd.ty_u80 : Tryd.prog.underlying 80 = some (.slice 82) := by kernel_rfl
theorem Tryd.ty_size81 : tsize Tryd.prog 81 = some 6 := by kernel_rfl
theorem Tryd.ty_bytes81 : tbytes Tryd.prog 81 = some 64 := by kernel_rfl
theorem Tryd.ty_agg81 : tagg Tryd.prog 81 = some true := by kernel_rfl
theorem Tryd.ty_zero81 : tzero Tryd.prog 81 = some (.agg [.int .i64 0, .int .i64 0, .int .i64 0, .int .i64 0, .bool false, .sl true []]) := by kernel_rfl
theorem Tryd.ty_sl81 : isSlice Tryd.prog 81 = false := by kernel_rfl
theorem Tryd.ty_b81 : isBool Tryd.prog 81 = false := by kernel_rfl
theorem Tryd.ty_f81_0 : (fieldOf Tryd.prog 81 0).map (fun d => (d.type, d.offset)) = some (3, 0) := by kernel_rfl
theorem Tryd.ty_fo81_0 : ∃ d, fieldOf Tryd.prog 81 0 = some d ∧ d.type = 3 ∧ d.offset = 0 := fieldOf_some Tryd.ty_f81_0
theorem Tryd.ty_fa81_0 (x : AV) (rows : Nat → ARow) : aFieldAddr Tryd.prog 81 x 0 rows = fieldAddrA Tryd.prog 3 0 x rows := aFieldAddr_of Tryd.ty_fo81_0 x rows
theorem Tryd.ty_ff81_0 (x : AV) : aField Tryd.prog 81 x 0 = fieldA Tryd.prog 3 0 x := aField_of Tryd.ty_fo81_0 x
theorem Tryd.ty_f81_1 : (fieldOf Tryd.prog 81 1).map (fun d => (d.type, d.offset)) = some (3, 1) := by kernel_rfl
theorem Tryd.ty_fo81_1 : ∃ d, fieldOf Tryd.prog 81 1 = some d ∧ d.type = 3 ∧ d.offset = 1 := fieldOf_some Tryd.ty_f81_1
theorem Tryd.ty_fa81_1 (x : AV) (rows : Nat → ARow) : aFieldAddr Tryd.prog 81 x 1 rows = fieldAddrA Tryd.prog 3 1 x rows := aFieldAddr_of Tryd.ty_fo81_1 x rows
theorem Tryd.ty_ff81_1 (x : AV) : aField Tryd.prog 81 x 1 = fieldA Tryd.prog 3 1 x := aField_of Tryd.ty_fo81_1 x
theorem Tryd.ty_f81_2 : (fieldOf Tryd.prog 81 2).map (fun d => (d.type, d.offset)) = some (3, 2) := by kernel_rfl
theorem Tryd.ty_fo81_2 : ∃ d, fieldOf Tryd.prog 81 2 = some d ∧ d.type = 3 ∧ d.offset = 2 := fieldOf_some Tryd.ty_f81_2
theorem Tryd.ty_fa81_2 (x : AV) (rows : Nat → ARow) : aFieldAddr Tryd.prog 81 x 2 rows = fieldAddrA Tryd.prog 3 2 x rows := aFieldAddr_of Tryd.ty_fo81_2 x rows
theorem Tryd.ty_ff81_2 (x : AV) : aField Tryd.prog 81 x 2 = fieldA Tryd.prog 3 2 x := aField_of Tryd.ty_fo81_2 x
theorem Tryd.ty_f81_3 : (fieldOf Tryd.prog 81 3).map (fun d => (d.type, d.offset)) = some (3, 3) := by kernel_rfl
theorem Tryd.ty_fo81_3 : ∃ d, fieldOf Tryd.prog 81 3 = some d ∧ d.type = 3 ∧ d.offset = 3 := fieldOf_some Tryd.ty_f81_3
theorem Tryd.ty_fa81_3 (x : AV) (rows : Nat → ARow) : aFieldAddr Tryd.prog 81 x 3 rows = fieldAddrA Tryd.prog 3 3 x rows := aFieldAddr_of Tryd.ty_fo81_3 x rows
theorem Tryd.ty_ff81_3 (x : AV) : aField Tryd.prog 81 x 3 = fieldA Tryd.prog 3 3 x := aField_of Tryd.ty_fo81_3 x
theorem Tryd.ty_f81_4 : (fieldOf Tryd.prog 81 4).map (fun d => (d.type, d.offset)) = some (4, 4) := by kernel_rfl
theorem Tryd.ty_fo81_4 : ∃ d, fieldOf Tryd.prog 81 4 = some d ∧ d.type = 4 ∧ d.offset = 4 := fieldOf_some Tryd.ty_f81_4
theorem Tryd.ty_fa81_4 (x : AV) (rows : Nat → ARow) : aFieldAddr Tryd.prog 81 x 4 rows = fieldAddrA Tryd.prog 4 4 x rows := aFieldAddr_of Tryd.ty_fo81_4 x rows
theorem Tryd.ty_ff81_4 (x : AV) : aField Tryd.prog 81 x 4 = fieldA Tryd.prog 4 4 x := aField_of Tryd.ty_fo81_4 x
theorem Tryd.ty_f81_5 : (fieldOf Tryd.prog 81 5).map (fun d => (d.type, d.offset)) = some (80, 5) := by kernel_rfl
theorem Tryd.ty_fo81_5 : ∃ d, fieldOf Tryd.prog 81 5 = some d ∧ d.type = 80 ∧ d.offset = 5 := fieldOf_some Tryd.ty_f81_5
theorem Tryd.ty_fa81_5 (x : AV) (rows : Nat → ARow) : aFieldAddr Tryd.prog 81 x 5 rows = fieldAddrA Tryd.prog 80 5 x rows := aFieldAddr_of Tryd.ty_fo81_5 x rows
theorem Tryd.ty_ff81_5 (x : AV) : aField Tryd.prog 81 x 5 = fieldA Tryd.prog 80 5 x := aField_of Tryd.ty_fo81_5 x
theorem Tryd.ty_bu81 (parts : List (Nat × AV)) : aBuild Tryd.prog 81 parts = (fillA (fun i => ([(0, 1), (1, 1), (2, 1), (3, 1), (4, 1), (5, 1)] : List (Nat × Nat))[i]?) [.int .i64 0, .int .i64 0, .int .i64 0, .int .i64 0, .bool false, .sl true []] parts).map .agg := aBuild_struct (by kernel_rfl) (by kernel_rfl)
theorem Tryd.ty_size82 : tsize Tryd.prog 82 = some 6 := by kernel_rfl
theorem Tryd.ty_bytes82 : tbytes Tryd.prog 82 = some 64 := by kernel_rfl
theorem Tryd.ty_agg82 : tagg Tryd.prog 82 = some true := by kernel_rfl
theorem Tryd.ty_zero82 : tzero Tryd.prog 82 = some (.agg [.int .i64 0, .int .i64 0, .int .i64 0, .int .i64 0, .bool false, .sl true []]) := by kernel_rfl
theorem Tryd.ty_sl82 : isSlice Tryd.prog 82 = false := by kernel_rfl
theorem Tryd.ty_b82 : isBool Tryd.prog 82 = false := by kernel_rfl
theorem Tryd.ty_f82_0 : (fieldOf Tryd.prog 82 0).map (fun d => (d.type, d.offset)) = some (3, 0) := by kernel_rfl
theorem Tryd.ty_fo82_0 : ∃ d, fieldOf Tryd.prog 82 0 = some d ∧ d.type = 3 ∧ d.offset = 0 := fieldOf_some Tryd.ty_f82_0
theorem Tryd.ty_fa82_0 (x : AV) (rows : Nat → ARow) : aFieldAddr Tryd.prog 82 x 0 rows = fieldAddrA Tryd.prog 3 0 x rows := aFieldAddr_of Tryd.ty_fo82_0 x rows
theorem Tryd.ty_ff82_0 (x : AV) : aField Tryd.prog 82 x 0 = fieldA Tryd.prog 3 0 x := aField_of Tryd.ty_fo82_0 x
theorem Tryd.ty_f82_1 : (fieldOf Tryd.prog 82 1).map (fun d => (d.type, d.offset)) = some (3, 1) := by kernel_rfl
theorem Tryd.ty_fo82_1 : ∃ d, fieldOf Tryd.prog 82 1 = some d ∧ d.type = 3 ∧ d.offset = 1 := fieldOf_some Tryd.ty_f82_1
theorem Tryd.ty_fa82_1 (x : AV) (rows : Nat → ARow) : aFieldAddr Tryd.prog 82 x 1 rows = fieldAddrA Tryd.prog 3 1 x rows := aFieldAddr_of Tryd.ty_fo82_1 x rows
theorem Tryd.ty_ff82_1 (x : AV) : aField Tryd.prog 82 x 1 = fieldA Tryd.prog 3 1 x := aField_of Tryd.ty_fo82_1 x
theorem Tryd.ty_f82_2 : (fieldOf Tryd.prog 82 2).map (fun d => (d.type, d.offset)) = some (3, 2) := by kernel_rfl
theorem Tryd.ty_fo82_2 : ∃ d, fieldOf Tryd.prog 82 2 = some d ∧ d.type = 3 ∧ d.offset = 2 := fieldOf_some Tryd.ty_f82_2
theorem Tryd.ty_fa82_2 (x : AV) (rows : Nat → ARow) : aFieldAddr Tryd.prog 82 x 2 rows = fieldAddrA Tryd.prog 3 2 x rows := aFieldAddr_of Tryd.ty_fo82_2 x rows
theorem Tryd.ty_ff82_2 (x : AV) : aField Tryd.prog 82 x 2 = fieldA Tryd.prog 3 2 x := aField_of Tryd.ty_fo82_2 x
theorem Tryd.ty_f82_3 : (fieldOf Tryd.prog 82 3).map (fun d => (d.type, d.offset)) = some (3, 3) := by kernel_rfl
theorem Tryd.ty_fo82_3 : ∃ d, fieldOf Tryd.prog 82 3 = some d ∧ d.type = 3 ∧ d.offset = 3 := fieldOf_some Tryd.ty_f82_3
theorem Tryd.ty_fa82_3 (x : AV) (rows : Nat → ARow) : aFieldAddr Tryd.prog 82 x 3 rows = fieldAddrA Tryd.prog 3 3 x rows := aFieldAddr_of Tryd.ty_fo82_3 x rows
theorem Tryd.ty_ff82_3 (x : AV) : aField Tryd.prog 82 x 3 = fieldA Tryd.prog 3 3 x := aField_of Tryd.ty_fo82_3 x
theorem Tryd.ty_f82_4 : (fieldOf Tryd.prog 82 4).map (fun d => (d.type, d.offset)) = some (4, 4) := by kernel_rfl
theorem Tryd.ty_fo82_4 : ∃ d, fieldOf Tryd.prog 82 4 = some d ∧ d.type = 4 ∧ d.offset = 4 := fieldOf_some Tryd.ty_f82_4
theorem Tryd.ty_fa82_4 (x : AV) (rows : Nat → ARow) : aFieldAddr Tryd.prog 82 x 4 rows = fieldAddrA Tryd.prog 4 4 x rows := aFieldAddr_of Tryd.ty_fo82_4 x rows
theorem Tryd.ty_ff82_4 (x : AV) : aField Tryd.prog 82 x 4 = fieldA Tryd.prog 4 4 x := aField_of Tryd.ty_fo82_4 x
theorem Tryd.ty_f82_5 : (fieldOf Tryd.prog 82 5).map (fun d => (d.type, d.offset)) = some (80, 5) := by kernel_rfl
theorem Tryd.ty_fo82_5 : ∃ d, fieldOf Tryd.prog 82 5 = some d ∧ d.type = 80 ∧ d.offset = 5 := fieldOf_some Tryd.ty_f82_5
theorem Tryd.ty_fa82_5 (x : AV) (rows : Nat → ARow) : aFieldAddr Tryd.prog 82 x 5 rows = fieldAddrA Tryd.prog 80 5 x rows := aFieldAddr_of Tryd.ty_fo82_5 x rows
theorem Tryd.ty_ff82_5 (x : AV) : aField Tryd.prog 82 x 5 = fieldA Tryd.prog 80 5 x := aField_of Tryd.ty_fo82_5 x
theorem Tryd.ty_bu82 (parts : List (Nat × AV)) : aBuild Tryd.prog 82 parts = (fillA (fun i => ([(0, 1), (1, 1), (2, 1), (3, 1), (4, 1), (5, 1)] : List (Nat × Nat))[i]?) [.int .i64 0, .int .i64 0, .int .i64 0, .int .i64 0, .bool false, .sl true []] parts).map .agg := aBuild_struct (by kernel_rfl) (by kernel_rfl)
theorem Tryd.ty_size83 : tsize Tryd.prog 83 = some 1 := by kernel_rfl
theorem Tryd.ty_agg83 : tagg Tryd.prog 83 = some false := by kernel_rfl
theorem Tryd.ty_zero83 : tzero Tryd.prog 83 = some .nilfn := by kernel_rfl
theorem Tryd.ty_size84 : tsize Tryd.prog 84 = some 1 := by kernel_rfl
theorem Tryd.ty_agg84 : tagg Tryd.prog 84 = some false := by kernel_rfl
theorem Tryd.ty_zero84 : tzero Tryd.prog 84 = some .nilfn := by kernel_rfl
theorem Tryd.ty_size86 : tsize Tryd.prog 86 = some 1 := by kernel_rfl
theorem Tryd.ty_agg86 : tagg Tryd.prog 86 = some false := by kernel_rfl
theorem Tryd.ty_zero86 : tzero Tryd.prog 86 = some .nilfn := by kernel_rfl
theorem Tryd.ty_size87 : tsize Tryd.prog 87 = some 1 := by kernel_rfl
theorem Tryd.ty_agg87 : tagg Tryd.prog 87 = some false := by kernel_rfl
theorem Tryd.ty_zero87 : tzero Tryd.prog 87 = some .nilfn := by kernel_rfl
theorem Tryd.ty_size88 : tsize Tryd.prog 88 = some 1 := by kernel_rfl
theorem Tryd.ty_agg88 : tagg Tryd.prog 88 = some false := by kernel_rfl
theorem Tryd.ty_zero88 : tzero Tryd.prog 88 = some .nilfn := by kernel_rfl
theorem Tryd.ty_size89 : tsize Tryd.prog 89 = some 1 := by kernel_rfl
theorem Tryd.ty_agg89 : tagg Tryd.prog 89 = some false := by kernel_rfl
theorem Tryd.ty_zero89 : tzero Tryd.prog 89 = some .nilfn := by kernel_rfl
theorem Tryd.ty_size90 : tsize Tryd.prog 90 = some 5 := by kernel_rfl
theorem Tryd.ty_bytes90 : tbytes Tryd.prog 90 = some 72 := by kernel_rfl
theorem Tryd.ty_agg90 : tagg Tryd.prog 90 = some true := by kernel_rfl
theorem Tryd.ty_zero90 : tzero Tryd.prog 90 = some (.agg [.int .i64 0, .int .i64 0, .int .i64 0, .sl true [], .sl true []]) := by kernel_rfl
theorem Tryd.ty_sl90 : isSlice Tryd.prog 90 = false := by kernel_rfl
theorem Tryd.ty_b90 : isBool Tryd.prog 90 = false := by kernel_rfl
theorem Tryd.ty_f90_0 : (fieldOf Tryd.prog 90 0).map (fun d => (d.type, d.offset)) = some (25, 0) := by kernel_rfl
theorem Tryd.ty_fo90_0 : ∃ d, fieldOf Tryd.prog 90 0 = some d ∧ d.type = 25 ∧ d.offset = 0 := fieldOf_some Tryd.ty_f90_0
theorem Tryd.ty_fa90_0 (x : AV) (rows : Nat → ARow) : aFieldAddr Tryd.prog 90 x 0 rows = fieldAddrA Tryd.prog 25 0 x rows := aFieldAddr_of Tryd.ty_fo90_0 x rows
theorem Tryd.ty_ff90_0 (x : AV) : aField Tryd.prog 90 x 0 = fieldA Tryd.prog 25 0 x := aField_of Tryd.ty_fo90_0 x
theorem Tryd.ty_f90_1 : (fieldOf Tryd.prog 90 1).map (fun d => (d.type, d.offset)) = some (23, 4) := by kernel_rfl
theorem Tryd.ty_fo90_1 : ∃ d, fieldOf Tryd.prog 90 1 = some d ∧ d.type = 23 ∧ d.offset = 4 := fieldOf_some Tryd.ty_f90_1
theorem Tryd.ty_fa90_1 (x : AV) (rows : Nat → ARow) : aFieldAddr Tryd.prog 90 x 1 rows = fieldAddrA Tryd.prog 23 4 x rows := aFieldAddr_of Tryd.ty_fo90_1 x rows
theorem Tryd.ty_ff90_1 (x : AV) : aField Tryd.prog 90 x 1 = fieldA Tryd.prog 23 4 x := aField_of Tryd.ty_fo90_1 x
theorem Tryd.ty_bu90 (parts : List (Nat × AV)) : aBuild Tryd.prog 90 parts = (fillA (fun i => ([(0, 4), (4, 1)] : List (Nat × Nat))[i]?) [.int .i64 0, .int .i64 0, .int .i64 0, .sl true [], .sl true []] parts).map .agg := aBuild_struct (by kernel_rfl) (by kernel_rfl)
theorem Tryd.ty_size91 : tsize Tryd.prog 91 = some 5 := by kernel_rfl
theorem Tryd.ty_bytes91 : tbytes Tryd.prog 91 = some 72 := by kernel_rfl
theorem Tryd.ty_agg91 : tagg Tryd.prog 91 = some true := by kernel_rfl
theorem Tryd.ty_zero91 : tzero Tryd.prog 91 = some (.agg [.int .i64 0, .int .i64 0, .int .i64 0, .sl true [], .sl true []]) := by kernel_rfl
theorem Tryd.ty_sl91 : isSlice Tryd.prog 91 = false := by kernel_rfl
theorem Tryd.ty_b91 : isBool Tryd.prog 91 = false := by kernel_rfl
theorem Tryd.ty_f91_0 : (fieldOf Tryd.prog 91 0).map (fun d => (d.type, d.offset)) = some (25, 0) := by kernel_rfl
theorem Tryd.ty_fo91_0 : ∃ d, fieldOf Tryd.prog 91 0 = some d ∧ d.type = 25 ∧ d.offset = 0 := fieldOf_some Tryd.ty_f91_0
theorem Tryd.ty_fa91_0 (x : AV) (rows : Nat → ARow) : aFieldAddr Tryd.prog 91 x 0 rows = fieldAddrA Tryd.prog 25 0 x rows := aFieldAddr_of Tryd.ty_fo91_0 x rows
theorem Tryd.ty_ff91_0 (x : AV) : aField Tryd.prog 91 x 0 = fieldA Tryd.prog 25 0 x := aField_of Tryd.ty_fo91_0 x
theorem Tryd.ty_f91_1 : (fieldOf Tryd.prog 91 1).map (fun d => (d.type, d.offset)) = some (23, 4) := by kernel_rfl
theorem Tryd.ty_fo91_1 : ∃ d, fieldOf Tryd.prog 91 1 = some d ∧ d.type = 23 ∧ d.offset = 4 := fieldOf_some Tryd.ty_f91_1
theorem Tryd.ty_fa91_1 (x : AV) (rows : Nat → ARow) : aFieldAddr Tryd.prog 91 x 1 rows = fieldAddrA Tryd.prog 23 4 x rows := aFieldAddr_of Tryd.ty_fo91_1 x rows
theorem Tryd.ty_ff91_1 (x : AV) : aField Tryd.prog 91 x 1 = fieldA Tryd.prog 23 4 x := aField_of Tryd.ty_fo91_1 x
theorem Tryd.ty_bu91 (parts : List (Nat × AV)) : aBuild Tryd.prog 91 parts = (fillA (fun i => ([(0, 4), (4, 1)] : List (Nat × Nat))[i]?) [.int .i64 0, .int .i64 0, .int .i64 0, .sl true [], .sl true []] parts).map .agg := aBuild_struct (by kernel_rfl) (by kernel_rfl)
theorem Tryd.ty_size92 : tsize Tryd.prog 92 = some 1 := by kernel_rfl
theorem Tryd.ty_agg92 : tagg Tryd.prog 92 = some false := by kernel_rfl
theorem Tryd.ty_zero92 : tzero Tryd.prog 92 = some .nilfn := by kernel_rfl
theorem Tryd.ty_size93 : tsize Tryd.prog 93 = some 1 := by kernel_rfl
theorem Tryd.ty_agg93 : tagg Tryd.prog 93 = some false := by kernel_rfl
theorem Tryd.ty_zero93 : tzero Tryd.prog 93 = some .nilfn := by kernel_rfl
theorem Tryd.ty_size94 : tsize Tryd.prog 94 = some 1 := by kernel_rfl
theorem Tryd.ty_agg94 : tagg Tryd.prog 94 = some false := by kernel_rfl
theorem Tryd.ty_zero94 : tzero Tryd.prog 94 = some .nilfn := by kernel_rfl
theorem Tryd.ty_size95 : tsize Tryd.prog 95 = some 1 := by kernel_rfl
theorem Tryd.ty_agg95 : tagg Tryd.prog 95 = some false := by kernel_rfl
theorem Tryd.ty_zero95 : tzero Tryd.prog 95 = some .nilfn := by kernel_rfl
theorem Tryd.ty_size96 : tsize Tryd.prog 96 = some 1 := by kernel_rfl
theorem Tryd.ty_agg96 : tagg Tryd.prog 96 = some false := by kernel_rfl
theorem Tryd.ty_zero96 : tzero Tryd.prog 96 = some .nilfn := by kernel_rfl
theorem Tryd.ty_size97 : tsize Tryd.prog 97 = some 1 := by kernel_rfl
theorem Tryd.ty_agg97 : tagg Tryd.prog 97 = some false := by kernel_rfl
theorem Tryd.ty_zero97 : tzero Tryd.prog 97 = some .nilfn := by kernel_rfl
theorem Tryd.ty_size98 : tsize Tryd.prog 98 = some 1 := by kernel_rfl
theorem Tryd.ty_agg98 : tagg Tryd.prog 98 = some false := by kernel_rfl
theorem Tryd.ty_zero98 : tzero Tryd.prog 98 = some .nilfn := by kernel_rfl
theorem Tryd.ty_size99 : tsize Tryd.prog 99 = some 1 := by kernel_rfl
theorem Tryd.ty_agg99 : tagg Tryd.prog 99 = some false := by kernel_rfl
theorem Tryd.ty_zero99 : tzero Tryd.prog 99 = some .nilfn := by kernel_rfl
theorem Tryd.ty_size100 : tsize Tryd.prog 100 = some 1 := by kernel_rfl
theorem Tryd.ty_agg100 : tagg Tryd.prog 100 = some false := by kernel_rfl
theorem Tryd.ty_zero100 : tzero Tryd.prog 100 = some .nilfn := by kernel_rfl
theorem Tryd.ty_size101 : tsize Tryd.prog 101 = some 1 := by kernel_rfl
theorem Tryd.ty_agg101 : tagg Tryd.prog 101 = some false := by kernel_rfl
theorem Tryd.ty_zero101 : tzero Tryd.prog 101 = some .nilfn := by kernel_rfl
theorem Tryd.ty_size102 : tsize Tryd.prog 102 = some 3 := by kernel_rfl
theorem Tryd.ty_bytes102 : tbytes Tryd.prog 102 = some 16 := by kernel_rfl
theorem Tryd.ty_agg102 : tagg Tryd.prog 102 = some true := by kernel_rfl
theorem Tryd.ty_zero102 : tzero Tryd.prog 102 = some (.agg [.nilfn, .bool false, .bool false]) := by kernel_rfl
theorem Tryd.ty_sl102 : isSlice Tryd.prog 102 = false := by kernel_rfl
theorem Tryd.ty_b102 : isBool Tryd.prog 102 = false := by kernel_rfl
theorem Tryd.ty_f102_0 : (fieldOf Tryd.prog 102 0).map (fun d => (d.type, d.offset)) = some (31, 0) := by kernel_rfl
theorem Tryd.ty_fo102_0 : ∃ d, fieldOf Tryd.prog 102 0 = some d ∧ d.type = 31 ∧ d.offset = 0 := fieldOf_some Tryd.ty_f102_0
theorem Tryd.ty_fa102_0 (x : AV) (rows : Nat → ARow) : aFieldAddr Tryd.prog 102 x 0 rows = fieldAddrA Tryd.prog 31 0 x rows := aFieldAddr_of Tryd.ty_fo102_0 x rows
theorem Tryd.ty_ff102_0 (x : AV) : aField Tryd.prog 102 x 0 = fieldA Tryd.prog 31 0 x := aField_of Tryd.ty_fo102_0 x
theorem Tryd.ty_f102_1 : (fieldOf Tryd.prog 102 1).map (fun d => (d.type, d.offset)) = some (4, 1) := by kernel_rfl
theorem Tryd.ty_fo102_1 : ∃ d, fieldOf Tryd.prog 102 1 = some d ∧ d.type = 4 ∧ d.offset = 1 := fieldOf_some Tryd.ty_f102_1
theorem Tryd.ty_fa102_1 (x : AV) (rows : Nat → ARow) : aFieldAddr Tryd.prog 102 x 1 rows = fieldAddrA Tryd.prog 4 1 x rows := aFieldAddr_of Tryd.ty_fo102_1 x rows
theorem Tryd.ty_ff102_1 (x : AV) : aField Tryd.prog 102 x 1 = fieldA Tryd.prog 4 1 x := aField_of Tryd.ty_fo102_1 x
theorem Tryd.ty_f102_2 : (fieldOf Tryd.prog 102 2).map (fun d => (d.type, d.offset)) = some (4, 2) := by kernel_rfl
theorem Tryd.ty_fo102_2 : ∃ d, fieldOf Tryd.prog 102 2 = some d ∧ d.type = 4 ∧ d.offset = 2 := fieldOf_some Tryd.ty_f102_2
theorem Tryd.ty_fa102_2 (x : AV) (rows : Nat → ARow) : aFieldAddr Tryd.prog 102 x 2 rows = fieldAddrA Tryd.prog 4 2 x rows := aFieldAddr_of Tryd.ty_fo102_2 x rows
theorem Tryd.ty_ff102_2 (x : AV) : aField Tryd.prog 102 x 2 = fieldA Tryd.prog 4 2 x := aField_of Tryd.ty_fo102_2 x
theorem Tryd.ty_bu102 (parts : List (Nat × AV)) : aBuild Tryd.prog 102 parts = (fillA (fun i => ([(0, 1), (1, 1), (2, 1)] : List (Nat × Nat))[i]?) [.nilfn, .bool false, .bool false] parts).map .agg := aBuild_struct (by kernel_rfl) (by kernel_rfl)
theorem Tryd.ty_size103 : tsize Tryd.prog 103 = some 3 := by kernel_rfl
theorem Tryd.ty_bytes103 : tbytes Tryd.prog 103 = some 16 := by kernel_rfl
theorem Tryd.ty_agg103 : tagg Tryd.prog 103 = some true := by kernel_rfl
theorem Tryd.ty_zero103 : tzero Tryd.prog 103 = some (.agg [.nilfn, .bool false, .bool false]) := by kernel_rfl
theorem Tryd.ty_sl103 : isSlice Tryd.prog 103 = false := by kernel_rfl
theorem Tryd.ty_b103 : isBool Tryd.prog 103 = false := by kernel_rfl
theorem Tryd.ty_f103_0 : (fieldOf Tryd.prog 103 0).map (fun d => (d.type, d.offset)) = some (31, 0) := by kernel_rfl
theorem Tryd.ty_fo103_0 : ∃ d, fieldOf Tryd.prog 103 0 = some d ∧ d.type = 31 ∧ d.offset = 0 := fieldOf_some Tryd.ty_f103_0
theorem Tryd.ty_fa103_0 (x : AV) (rows : Nat → ARow) : aFieldAddr Tryd.prog 103 x 0 rows = fieldAddrA Tryd.prog 31 0 x rows := aFieldAddr_of Tryd.ty_fo103_0 x rows
theorem Tryd.ty_ff103_0 (x : AV) : aField Tryd.prog 103 x 0 = fieldA Tryd.prog 31 0 x := aField_of Tryd.ty_fo103_0 x
theorem Tryd.ty_f103_1 : (fieldOf Tryd.prog 103 1).map (fun d => (d.type, d.offset)) = some (4, 1) := by kernel_rfl
theorem Tryd.ty_fo103_1 : ∃ d, fieldOf Tryd.prog 103 1 = some d ∧ d.type = 4 ∧ d.offset = 1 := fieldOf_some Tryd.ty_f103_1
theorem Tryd.ty_fa103_1 (x : AV) (rows : Nat → ARow) : aFieldAddr Tryd.prog 103 x 1 rows = fieldAddrA Tryd.prog 4 1 x rows := aFieldAddr_of Tryd.ty_fo103_1 x rows
theorem Tryd.ty_ff103_1 (x : AV) : aField Tryd.prog 103 x 1 = fieldA Tryd.prog 4 1 x := aField_of Tryd.ty_fo103_1 x
theorem Tryd.ty_f103_2 : (fieldOf Tryd.prog 103 2).map (fun d => (d.type, d.offset)) = some (4, 2) := by kernel_rfl
theorem Tryd.ty_fo103_2 : ∃ d, fieldOf Tryd.prog 103 2 = some d ∧ d.type = 4 ∧ d.offset = 2 := fieldOf_some Tryd.ty_f103_2
theorem Tryd.ty_fa103_2 (x : AV) (rows : Nat → ARow) : aFieldAddr Tryd.prog 103 x 2 rows = fieldAddrA Tryd.prog 4 2 x rows := aFieldAddr_of Tryd.ty_fo103_2 x rows
theorem Tryd.ty_ff103_2 (x : AV) : aField Tryd.prog 103 x 2 = fieldA Tryd.prog 4 2 x := aField_of Tryd.ty_fo103_2 x
theorem Tryd.ty_bu103 (parts : List (Nat × AV)) : aBuild Tryd.prog 103 parts = (fillA (fun i => ([(0, 1), (1, 1), (2, 1)] : List (Nat × Nat))[i]?) [.nilfn, .bool false, .bool false] parts).map .agg := aBuild_struct (by kernel_rfl) (by kernel_rfl)
theorem Tryd.ty_size104 : tsize Tryd.prog 104 = some 42 := by kernel_rfl
theorem Tryd.ty_bytes104 : tbytes Tryd.prog 104 = some 224 := by kernel_rfl
theorem Tryd.ty_agg104 : tagg Tryd.prog 104 = some true := by kernel_rfl
theorem Tryd.ty_zero104 : tzero Tryd.prog 104 = some (.agg [.nilfn, .bool false, .bool false, .nilfn, .bool false, .bool false, .nilfn, .bool false, .bool false, .nilfn, .bool false, .bool false, .nilfn, .bool false, .bool false, .nilfn, .bool false, .bool false, .nilfn, .bool false, .bool false, .nilfn, .bool false, .bool false, .nilfn, .bool false, .bool false, .nilfn, .bool false, .bool false, .nilfn, .bool false, .bool false, .nilfn, .bool false, .bool false, .nilfn, .bool false, .bool false, .nilfn, .bool false, .bool false]) := by kernel_rfl
theorem Tryd.ty_sl104 : isSlice Tryd.prog 104 = false := by kernel_rfl
theorem Tryd.ty_b104 : isBool Tryd.prog 104 = false := by kernel_rfl
theorem Tryd.ty_u104 : Tryd.prog.underlying 104 = some (.array 14 103) := by kernel_rfl
theorem Tryd.ty_bu104 (parts : List (Nat × AV)) : aBuild Tryd.prog 104 parts = (fillA (fun i => some (i * 3, 3)) [.nilfn, .bool false, .bool false, .nilfn, .bool false, .bool false, .nilfn, .bool false, .bool false, .nilfn, .bool false, .bool false, .nilfn, .bool false, .bool false, .nilfn, .bool false, .bool false, .nilfn, .bool false, .bool false, .nilfn, .bool false, .bool false, .nilfn, .bool false, .bool false, .nilfn, .bool false, .bool false, .nilfn, .bool false, .bool false, .nilfn, .bool false, .bool false, .nilfn, .bool false, .bool false, .nilfn, .bool false, .bool false] parts).map .agg := aBuild_array (n := 14) (e := 103) (by kernel_rfl) (by kernel_rfl) (by kernel_rfl)
theorem Tryd.ty_size105 : tsize Tryd.prog 105 = some 1 := by kernel_rfl
theorem Tryd.ty_bytes105 : tbytes Tryd.prog 105 = some 8 := by kernel_rfl
theorem Tryd.ty_agg105 : tagg Tryd.prog 105 = some false := by kernel_rfl
theorem Tryd.ty_zero105 : tzero Tryd.prog 105 = some (.nilptr) := by kernel_rfl
theorem Tryd.ty_sl105 : isSlice Tryd.prog 105 = false := by kernel_rfl
theorem Tryd.ty_b105 : isBool Tryd.prog 105 = false := by kernel_rfl
theorem Tryd.ty_size106 : tsize Tryd.prog 106 = some 9 := by kernel_rfl
theorem Tryd.ty_bytes106 : tbytes Tryd.prog 106 = some 104 := by kernel_rfl
theorem Tryd.ty_agg106 : tagg Tryd.prog 106 = some true := by kernel_rfl
theorem Tryd.ty_zero106 : tzero Tryd.prog 106 = some (.agg [.sl true [], .int .i64 0, .int .i64 0, .int .i64 0, .int .i64 0, .int .i64 0, .sl true [], .int .i64 0, .bool false]) := by kernel_rfl
theorem Tryd.ty_sl106 : isSlice Tryd.prog 106 = false := by kernel_rfl
theorem Tryd.ty_b106 : isBool Tryd.prog 106 = false := by kernel_rfl
theorem Tryd.ty_f106_0 : (fieldOf Tryd.prog 106 0).map (fun d => (d.type, d.offset)) = some (22, 0) := by kernel_rfl
theorem Tryd.ty_fo106_0 : ∃ d, fieldOf Tryd.prog 106 0 = some d ∧ d.type = 22 ∧ d.offset = 0 := fieldOf_some Tryd.ty_f106_0
theorem Tryd.ty_fa106_0 (x : AV) (rows : Nat → ARow) : aFieldAddr Tryd.prog 106 x 0 rows = fieldAddrA Tryd.prog 22 0 x rows := aFieldAddr_of Tryd.ty_fo106_0 x rows
theorem Tryd.ty_ff106_0 (x : AV) : aField Tryd.prog 106 x 0 = fieldA Tryd.prog 22 0 x := aField_of Tryd.ty_fo106_0 x
theorem Tryd.ty_f106_1 : (fieldOf Tryd.prog 106 1).map (fun d => (d.type, d.offset)) = some (3, 1) := by kernel_rfl
theorem Tryd.ty_fo106_1 : ∃ d, fieldOf Tryd.prog 106 1 = some d ∧ d.type = 3 ∧ d.offset = 1 := fieldOf_some Tryd.ty_f106_1
theorem Tryd.ty_fa106_1 (x : AV) (rows : Nat → ARow) : aFieldAddr Tryd.prog 106 x 1 rows = fieldAddrA Tryd.prog 3 1 x rows := aFieldAddr_of Tryd.ty_fo106_1 x rows
theorem Tryd.ty_ff106_1 (x : AV) : aField Tryd.prog 106 x 1 = fieldA Tryd.prog 3 1 x := aField_of Tryd.ty_fo106_1 x
theorem Tryd.ty_f106_2 : (fieldOf Tryd.prog 106 2).map (fun d => (d.type, d.offset)) = some (3, 2) := by kernel_rfl
theorem Tryd.ty_fo106_2 : ∃ d, fieldOf Tryd.prog 106 2 = some d ∧ d.type = 3 ∧ d.offset = 2 := fieldOf_some Tryd.ty_f106_2
theorem Tryd.ty_fa106_2 (x : AV) (rows : Nat → ARow) : aFieldAddr Tryd.prog 106 x 2 rows = fieldAddrA Tryd.prog 3 2 x rows := aFieldAddr_of Tryd.ty_fo106_2 x rows
theorem Tryd.ty_ff106_2 (x : AV) : aField Tryd.prog 106 x 2 = fieldA Tryd.prog 3 2 x := aField_of Tryd.ty_fo106_2 x
theorem Tryd.ty_f106_3 : (fieldOf Tryd.prog 106 3).map (fun d => (d.type, d.offset)) = some (25, 3) := by kernel_rfl
theorem Tryd.ty_fo106_3 : ∃ d, fieldOf Tryd.prog 106 3 = some d ∧ d.type = 25 ∧ d.offset = 3 := fieldOf_some Tryd.ty_f106_3
theorem Tryd.ty_fa106_3 (x : AV) (rows : Nat → ARow) : aFieldAddr Tryd.prog 106 x 3 rows = fieldAddrA Tryd.prog 25 3 x rows := aFieldAddr_of Tryd.ty_fo106_3 x rows
theorem Tryd.ty_ff106_3 (x : AV) : aField Tryd.prog 106 x 3 = fieldA Tryd.prog 25 3 x := aField_of Tryd.ty_fo106_3 x
theorem Tryd.ty_f106_4 : (fieldOf Tryd.prog 106 4).map (fun d => (d.type, d.offset)) = some (3, 7) := by kernel_rfl
theorem Tryd.ty_fo106_4 : ∃ d, fieldOf Tryd.prog 106 4 = some d ∧ d.type = 3 ∧ d.offset = 7 := fieldOf_some Tryd.ty_f106_4
theorem Tryd.ty_fa106_4 (x : AV) (rows : Nat → ARow) : aFieldAddr Tryd.prog 106 x 4 rows = fieldAddrA Tryd.prog 3 7 x rows := aFieldAddr_of Tryd.ty_fo106_4 x rows
theorem Tryd.ty_ff106_4 (x : AV) : aField Tryd.prog 106 x 4 = fieldA Tryd.prog 3 7 x := aField_of Tryd.ty_fo106_4 x
theorem Tryd.ty_f106_5 : (fieldOf Tryd.prog 106 5).map (fun d => (d.type, d.offset)) = some (4, 8) := by kernel_rfl
theorem Tryd.ty_fo106_5 : ∃ d, fieldOf Tryd.prog 106 5 = some d ∧ d.type = 4 ∧ d.offset = 8 := fieldOf_some Tryd.ty_f106_5
theorem Tryd.ty_fa106_5 (x : AV) (rows : Nat → ARow) : aFieldAddr Tryd.prog 106 x 5 rows = fieldAddrA Tryd.prog 4 8 x rows := aFieldAddr_of Tryd.ty_fo106_5 x rows
theorem Tryd.ty_ff106_5 (x : AV) : aField Tryd.prog 106 x 5 = fieldA Tryd.prog 4 8 x := aField_of Tryd.ty_fo106_5 x
theorem Tryd.ty_bu106 (parts : List (Nat × AV)) : aBuild Tryd.prog 106 parts = (fillA (fun i => ([(0, 1), (1, 1), (2, 1), (3, 4), (7, 1), (8, 1)] : List (Nat × Nat))[i]?) [.sl true [], .int .i64 0, .int .i64 0, .int .i64 0, .int .i64 0, .int .i64 0, .sl true [], .int .i64 0, .bool false] parts).map .agg := aBuild_struct (by kernel_rfl) (by kernel_rfl)
theorem Tryd.ty_size107 : tsize Tryd.prog 107 = some 9 := by kernel_rfl
theorem Tryd.ty_bytes107 : tbytes Tryd.prog 107 = some 104 := by kernel_rfl
theorem Tryd.ty_agg107 : tagg Tryd.prog 107 = some true := by kernel_rfl
theorem Tryd.ty_zero107 : tzero Tryd.prog 107 = some (.agg [.sl true [], .int .i64 0, .int .i64 0, .int .i64 0, .int .i64 0, .int .i64 0, .sl true [], .int .i64 0, .bool false]) := by kernel_rfl
theorem Tryd.ty_sl107 : isSlice Tryd.prog 107 = false := by kernel_rfl
theorem Tryd.ty_b107 : isBool Tryd.prog 107 = false := by kernel_rfl
theorem Tryd.ty_f107_0 : (fieldOf Tryd.prog 107 0).map (fun d => (d.type, d.offset)) = some (22, 0) := by kernel_rfl
theorem Tryd.ty_fo107_0 : ∃ d, fieldOf Tryd.prog 107 0 = some d ∧ d.type = 22 ∧ d.offset = 0 := fieldOf_some Tryd.ty_f107_0
theorem Tryd.ty_fa107_0 (x : AV) (rows : Nat → ARow) : aFieldAddr Tryd.prog 107 x 0 rows = fieldAddrA Tryd.prog 22 0 x rows := aFieldAddr_of Tryd.ty_fo107_0 x rows
theorem Tryd.ty_ff107_0 (x : AV) : aField Tryd.prog 107 x 0 = fieldA Tryd.prog 22 0 x := aField_of Tryd.ty_fo107_0 x
theorem Tryd.ty_f107_1 : (fieldOf Tryd.prog 107 1).map (fun d => (d.type, d.offset)) = some (3, 1) := by kernel_rfl
theorem Tryd.ty_fo107_1 : ∃ d, fieldOf Tryd.prog 107 1 = some d ∧ d.type = 3 ∧ d.offset = 1 := fieldOf_some Tryd.ty_f107_1
theorem Tryd.ty_fa107_1 (x : AV) (rows : Nat → ARow) : aFieldAddr Tryd.prog 107 x 1 rows = fieldAddrA Tryd.prog 3 1 x rows := aFieldAddr_of Tryd.ty_fo107_1 x rows
theorem Tryd.ty_ff107_1 (x : AV) : aField Tryd.prog 107 x 1 = fieldA Tryd.prog 3 1 x := aField_of Tryd.ty_fo107_1 x
theorem Tryd.ty_f107_2 : (fieldOf Tryd.prog 107 2).map (fun d => (d.type, d.offset)) = some (3, 2) := by kernel_rfl
theorem Tryd.ty_fo107_2 : ∃ d, fieldOf Tryd.prog 107 2 = some d ∧ d.type = 3 ∧ d.offset = 2 := fieldOf_some Tryd.ty_f107_2
theorem Tryd.ty_fa107_2 (x : AV) (rows : Nat → ARow) : aFieldAddr Tryd.prog 107 x 2 rows = fieldAddrA Tryd.prog 3 2 x rows := aFieldAddr_of Tryd.ty_fo107_2 x rows
theorem Tryd.ty_ff107_2 (x : AV) : aField Tryd.prog 107 x 2 = fieldA Tryd.prog 3 2 x := aField_of Tryd.ty_fo107_2 x
theorem Tryd.ty_f107_3 : (fieldOf Tryd.prog 107 3).map (fun d => (d.type, d.offset)) = some (25, 3) := by kernel_rfl
theorem Tryd.ty_fo107_3 : ∃ d, fieldOf Tryd.prog 107 3 = some d ∧ d.type = 25 ∧ d.offset = 3 := fieldOf_some Tryd.ty_f107_3
theorem Tryd.ty_fa107_3 (x : AV) (rows : Nat → ARow) : aFieldAddr Tryd.prog 107 x 3 rows = fieldAddrA Tryd.prog 25 3 x rows := aFieldAddr_of Tryd.ty_fo107_3 x rows
theorem Tryd.ty_ff107_3 (x : AV) : aField Tryd.prog 107 x 3 = fieldA Tryd.prog 25 3 x := aField_of Tryd.ty_fo107_3 x
theorem Tryd.ty_f107_4 : (fieldOf Tryd.prog 107 4).map (fun d => (d.type, d.offset)) = some (3, 7) := by kernel_rfl
theorem Tryd.ty_fo107_4 : ∃ d, fieldOf Tryd.prog 107 4 = some d ∧ d.type = 3 ∧ d.offset = 7 := fieldOf_some Tryd.ty_f107_4
theorem Tryd.ty_fa107_4 (x : AV) (rows : Nat → ARow) : aFieldAddr Tryd.prog 107 x 4 rows = fieldAddrA Tryd.prog 3 7 x rows := aFieldAddr_of Tryd.ty_fo107_4 x rows
theorem Tryd.ty_ff107_4 (x : AV) : aField Tryd.prog 107 x 4 = fieldA Tryd.prog 3 7 x := aField_of Tryd.ty_fo107_4 x
theorem Tryd.ty_f107_5 : (fieldOf Tryd.prog 107 5).map (fun d => (d.type, d.offset)) = some (4, 8) := by kernel_rfl
theorem Tryd.ty_fo107_5 : ∃ d, fieldOf Tryd.prog 107 5 = some d ∧ d.type = 4 ∧ d.offset = 8 := fieldOf_some Tryd.ty_f107_5
theorem Tryd.ty_fa107_5 (x : AV) (rows : Nat → ARow) : aFieldAddr Tryd.prog 107 x 5 rows = fieldAddrA Tryd.prog 4 8 x rows := aFieldAddr_of Tryd.ty_fo107_5 x rows
theorem Tryd.ty_ff107_5 (x : AV) : aField Tryd.prog 107 x 5 = fieldA Tryd.prog 4 8 x := aField_of Tryd.ty_fo107_5 x
theorem Tryd.ty_bu107 (parts : List (Nat × AV)) : aBuild Tryd.prog 107 parts = (fillA (fun i => ([(0, 1), (1, 1), (2, 1), (3, 4), (7, 1), (8, 1)] : List (Nat × Nat))[i]?) [.sl true [], .int .i64 0, .int .i64 0, .int .i64 0, .int .i64 0, .int .i64 0, .sl true [], .int .i64 0, .bool false] parts).map .agg := aBuild_struct (by kernel_rfl) (by kernel_rfl)
theorem Tryd.ty_size108 : tsize Tryd.prog 108 = some 1 := by kernel_rfl
theorem Tryd.ty_agg108 : tagg Tryd.prog 108 = some false := by kernel_rfl
theorem Tryd.ty_zero108 : tzero Tryd.prog 108 = some .nilfn := by kernel_rfl
theorem Tryd.ty_size109 : tsize Tryd.prog 109 = some 1 := by kernel_rfl
theorem Tryd.ty_agg109 : tagg Tryd.prog 109 = some false := by kernel_rfl
theorem Tryd.ty_zero109 : tzero Tryd.prog 109 = some .nilfn := by kernel_rfl
theorem Tryd.ty_size110 : tsize Tryd.prog 110 = some 1 := by kernel_rfl
theorem Tryd.ty_agg110 : tagg Tryd.prog 110 = some false := by kernel_rfl
theorem Tryd.ty_zero110 : tzero Tryd.prog 110 = some .nilfn := by kernel_rfl
theorem Tryd.ty_size111 : tsize Tryd.prog 111 = some 1 := by kernel_rfl
theorem Tryd.ty_agg111 : tagg Tryd.prog 111 = some false := by kernel_rfl
theorem Tryd.ty_zero111 : tzero Tryd.prog 111 = some .nilfn := by kernel_rfl
theorem Tryd.ty_size113 : tsize Tryd.prog 113 = some 1 := by kernel_rfl
theorem Tryd.ty_agg113 : tagg Tryd.prog 113 = some false := by kernel_rfl
theorem Tryd.ty_zero113 : tzero Tryd.prog 113 = some .nilfn := by kernel_rfl
theorem Tryd.ty_size114 : tsize Tryd.prog 114 = some 1 := by kernel_rfl
theorem Tryd.ty_agg114 : tagg Tryd.prog 114 = some false := by kernel_rfl
theorem Tryd.ty_zero114 : tzero Tryd.prog 114 = some .nilfn := by kernel_rfl
theorem Tryd.ty_size115 : tsize Tryd.prog 115 = some 1 := by kernel_rfl
theorem Tryd.ty_agg115 : tagg Tryd.prog 115 = some false := by kernel_rfl
theorem Tryd.ty_zero115 : tzero Tryd.prog 115 = some .nilfn := by kernel_rfl
theorem Tryd.ty_size116 : tsize Tryd.prog 116 = some 1 := by kernel_rfl
theorem Tryd.ty_bytes116 : tbytes Tryd.prog 116 = some 8 := by kernel_rfl
theorem Tryd.ty_agg116 : tagg Tryd.prog 116 = some false := by kernel_rfl
theorem Tryd.ty_zero116 : tzero Tryd.prog 116 = some (.int .i64 0) := by kernel_rfl
theorem Tryd.ty_sl116 : isSlice Tryd.prog 116 = false := by kernel_rfl
theorem Tryd.ty_b116 : isBool Tryd.prog 116 = false := by kernel_rfl
theorem Tryd.ty_u116 : Tryd.prog.underlying 116 = some (.int .i64) := by kernel_rfl
theorem Tryd.ty_size117 : tsize Tryd.prog 117 = some 1 := by kernel_rfl
theorem Tryd.ty_agg117 : tagg Tryd.prog 117 = some false := by kernel_rfl
theorem Tryd.ty_zero117 : tzero Tryd.prog 117 = some .nilfn := by kernel_rfl
theorem Tryd.ty_size118 : tsize Tryd.prog 118 = some 1 := by kernel_rfl
theorem Tryd.ty_agg118 : tagg Tryd.prog 118 = some false := by kernel_rfl
theorem Tryd.ty_zero118 : tzero Tryd.prog 118 = some .nilfn := by kernel_rfl
theorem Tryd.ty_size119 : tsize Tryd.prog 119 = some 1 := by kernel_rfl
theorem Tryd.ty_bytes119 : tbytes Tryd.prog 119 = some 8 := by kernel_rfl
theorem Tryd.ty_agg119 : tagg Tryd.prog 119 = some false := by kernel_rfl
theorem Tryd.ty_zero119 : tzero Tryd.prog 119 = some (.nilptr) := by kernel_rfl
theorem Tryd.ty_sl119 : isSlice Tryd.prog 119 = false := by kernel_rfl
theorem Tryd.ty_b119 : isBool Tryd.prog 119 = false := by kernel_rfl
theorem Tryd.ty_size120 : tsize Tryd.prog 120 = some 3 := by kernel_rfl
theorem Tryd.ty_bytes120 : tbytes Tryd.prog 120 = some 72 := by kernel_rfl
theorem Tryd.ty_agg120 : tagg Tryd.prog 120 = some true := by kernel_rfl
theorem Tryd.ty_zero120 : tzero Tryd.prog 120 = some (.agg [.sl true [], .sl true [], .sl true []]) := by kernel_rfl
theorem Tryd.ty_sl120 : isSlice Tryd.prog 120 = false := by kernel_rfl
theorem Tryd.ty_b120 : isBool Tryd.prog 120 = false := by kernel_rfl
theorem Tryd.ty_f120_0 : (fieldOf Tryd.prog 120 0).map (fun d => (d.type, d.offset)) = some (23, 0) := by kernel_rfl
theorem Tryd.ty_fo120_0 : ∃ d, fieldOf Tryd.prog 120 0 = some d ∧ d.type = 23 ∧ d.offset = 0 := fieldOf_some Tryd.ty_f120_0
theorem Tryd.ty_fa120_0 (x : AV) (rows : Nat → ARow) : aFieldAddr Tryd.prog 120 x 0 rows = fieldAddrA Tryd.prog 23 0 x rows := aFieldAddr_of Tryd.ty_fo120_0 x rows
theorem Tryd.ty_ff120_0 (x : AV) : aField Tryd.prog 120 x 0 = fieldA Tryd.prog 23 0 x := aField_of Tryd.ty_fo120_0 x
theorem Tryd.ty_f120_1 : (fieldOf Tryd.prog 120 1).map (fun d => (d.type, d.offset)) = some (48, 1) := by kernel_rfl
theorem Tryd.ty_fo120_1 : ∃ d, fieldOf Tryd.prog 120 1 = some d ∧ d.type = 48 ∧ d.offset = 1 := fieldOf_some Tryd.ty_f120_1
theorem Tryd.ty_fa120_1 (x : AV) (rows : Nat → ARow) : aFieldAddr Tryd.prog 120 x 1 rows = fieldAddrA Tryd.prog 48 1 x rows := aFieldAddr_of Tryd.ty_fo120_1 x rows
theorem Tryd.ty_ff120_1 (x : AV) : aField Tryd.prog 120 x 1 = fieldA Tryd.prog 48 1 x := aField_of Tryd.ty_fo120_1 x
theorem Tryd.ty_f120_2 : (fieldOf Tryd.prog 120 2).map (fun d => (d.type, d.offset)) = some (22, 2) := by kernel_rfl
theorem Tryd.ty_fo120_2 : ∃ d, fieldOf Tryd.prog 120 2 = some d ∧ d.type = 22 ∧ d.offset = 2 := fieldOf_some Tryd.ty_f120_2
theorem Tryd.ty_fa120_2 (x : AV) (rows : Nat → ARow) : aFieldAddr Tryd.prog 120 x 2 rows = fieldAddrA Tryd.prog 22 2 x rows := aFieldAddr_of Tryd.ty_fo120_2 x rows
theorem Tryd.ty_ff120_2 (x : AV) : aField Tryd.prog 120 x 2 = fieldA Tryd.prog 22 2 x := aField_of Tryd.ty_fo120_2 x
theorem Tryd.ty_bu120 (parts : List (Nat × AV)) : aBuild Tryd.prog 120 parts = (fillA (fun i => ([(0, 1), (1, 1), (2, 1)] : List (Nat × Nat))[i]?) [.sl true [], .sl true [], .sl true []] parts).map .agg := aBuild_struct (by kernel_rfl) (by kernel_rfl)
theorem Tryd.ty_size121 : tsize Tryd.prog 121 = some 3 := by kernel_rfl
theorem Tryd.ty_bytes121 : tbytes Tryd.prog 121 = some 72 := by kernel_rfl
theorem Tryd.ty_agg121 : tagg Tryd.prog 121 = some true := by kernel_rfl
theorem Tryd.ty_zero121 : tzero Tryd.prog 121 = some (.agg [.sl true [], .sl true [], .sl true []]) := by kernel_rfl
theorem Tryd.ty_sl121 : isSlice Tryd.prog 121 = false := by kernel_rfl
theorem Tryd.ty_b121 : isBool Tryd.prog 121 = false := by kernel_rfl
theorem Tryd.ty_f121_0 : (fieldOf Tryd.prog 121 0).map (fun d => (d.type, d.offset)) = some (23, 0) := by kernel_rfl
theorem Tryd.ty_fo121_0 : ∃ d, fieldOf Tryd.prog 121 0 = some d ∧ d.type = 23 ∧ d.offset = 0 := fieldOf_some Tryd.ty_f121_0
theorem Tryd.ty_fa121_0 (x : AV) (rows : Nat → ARow) : aFieldAddr Tryd.prog 121 x 0 rows = fieldAddrA Tryd.prog 23 0 x rows := aFieldAddr_of Tryd.ty_fo121_0 x rows
theorem Tryd.ty_ff121_0 (x : AV) : aField Tryd.prog 121 x 0 = fieldA Tryd.prog 23 0 x := aField_of Tryd.ty_fo121_0 x
theorem Tryd.ty_f121_1 : (fieldOf Tryd.prog 121 1).map (fun d => (d.type, d.offset)) = some (48, 1) := by kernel_rfl
theorem Tryd.ty_fo121_1 : ∃ d, fieldOf Tryd.prog 121 1 = some d ∧ d.type = 48 ∧ d.offset = 1 := fieldOf_some Tryd.ty_f121_1
theorem Tryd.ty_fa121_1 (x : AV) (rows : Nat → ARow) : aFieldAddr Tryd.prog 121 x 1 rows = fieldAddrA Tryd.prog 48 1 x rows := aFieldAddr_of Tryd.ty_fo121_1 x rows
theorem Tryd.ty_ff121_1 (x : AV) : aField Tryd.prog 121 x 1 = fieldA Tryd.prog 48 1 x := aField_of Tryd.ty_fo121_1 x
theorem Tryd.ty_f121_2 : (fieldOf Tryd.prog 121 2).map (fun d => (d.type, d.offset)) = some (22, 2) := by kernel_rfl
theorem Tryd.ty_fo121_2 : ∃ d, fieldOf Tryd.prog 121 2 = some d ∧ d.type = 22 ∧ d.offset = 2 := fieldOf_some Tryd.ty_f121_2
theorem Tryd.ty_fa121_2 (x : AV) (rows : Nat → ARow) : aFieldAddr Tryd.prog 121 x 2 rows = fieldAddrA Tryd.prog 22 2 x rows := aFieldAddr_of Tryd.ty_fo121_2 x rows
theorem Tryd.ty_ff121_2 (x : AV) : aField Tryd.prog 121 x 2 = fieldA Tryd.prog 22 2 x := aField_of Tryd.ty_fo121_2 x
theorem Tryd.ty_bu121 (parts : List (Nat × AV)) : aBuild Tryd.prog 121 parts = (fillA (fun i => ([(0, 1), (1, 1), (2, 1)] : List (Nat × Nat))[i]?) [.sl true [], .sl true [], .sl true []] parts).map .agg := aBuild_struct (by kernel_rfl) (by kernel_rfl)
theorem Tryd.ty_size122 : tsize Tryd.prog 122 = some 1 := by kernel_rfl
theorem Tryd.ty_agg122 : tagg Tryd.prog 122 = some false := by kernel_rfl
theorem Tryd.ty_zero122 : tzero Tryd.prog 122 = some .nilfn := by kernel_rfl
theorem Tryd.ty_size123 : tsize Tryd.prog 123 = some 1 := by kernel_rfl
theorem Tryd.ty_agg123 : tagg Tryd.prog 123 = some false := by kernel_rfl
theorem Tryd.ty_zero123 : tzero Tryd.prog 123 = some .nilfn := by kernel_rfl
theorem Tryd.ty_size124 : tsize Tryd.prog 124 = some 1 := by kernel_rfl
theorem Tryd.ty_agg124 : tagg Tryd.prog 124 = some false := by kernel_rfl
theorem Tryd.ty_zero124 : tzero Tryd.prog 124 = some .nilfn := by kernel_rfl
theorem Tryd.ty_size125 : tsize Tryd.prog 125 = some 1 := by kernel_rfl
theorem Tryd.ty_agg125 : tagg Tryd.prog 125 = some false := by kernel_rfl
theorem Tryd.ty_zero125 : tzero Tryd.prog 125 = some .nilfn := by kernel_rfl
theorem Tryd.ty_size126 : tsize Tryd.prog 126 = some 1 := by kernel_rfl
theorem Tryd.ty_agg126 : tagg Tryd.prog 126 = some false := by kernel_rfl
theorem Tryd.ty_zero126 : tzero Tryd.prog 126 = some .nilfn := by kernel_rfl
theorem Tryd.ty_size127 : tsize Tryd.prog 127 = some 1 := by kernel_rfl
theorem Tryd.ty_agg127 : tagg Tryd.prog 127 = some false := by kernel_rfl
theorem Tryd.ty_zero127 : tzero Tryd.prog 127 = some .nilfn := by kernel_rfl
theorem Tryd.ty_size128 : tsize Tryd.prog 128 = some 1 := by kernel_rfl
theorem Tryd.ty_agg128 : tagg Tryd.prog 128 = some false := by kernel_rfl
theorem Tryd.ty_zero128 : tzero Tryd.prog 128 = some .nilfn := by kernel_rfl
theorem Tryd.ty_size129 : tsize Tryd.prog 129 = some 1 := by kernel_rfl
theorem Tryd.ty_agg129 : tagg Tryd.prog 129 = some false := by kernel_rfl
theorem Tryd.ty_zero129 : tzero Tryd.prog 129 = some .nilfn := by kernel_rfl
theorem Tryd.ty_size130 : tsize Tryd.prog 130 = some 1 := by kernel_rfl
theorem Tryd.ty_agg130 : tagg Tryd.prog 130 = some false := by kernel_rfl
theorem Tryd.ty_zero130 : tzero Tryd.prog 130 = some .nilfn := by kernel_rfl
theorem Tryd.ty_size131 : tsize Tryd.prog 131 = some 1 := by kernel_rfl
theorem Tryd.ty_agg131 : tagg Tryd.prog 131 = some false := by kernel_rfl
theorem Tryd.ty_zero131 : tzero Tryd.prog 131 = some .nilfn := by kernel_rfl
theorem Tryd.ty_size132 : tsize Tryd.prog 132 = some 1 := by kernel_rfl
theorem Tryd.ty_bytes132 : tbytes Tryd.prog 132 = some 24 := by kernel_rfl
theorem Tryd.ty_agg132 : tagg Tryd.prog 132 = some false := by kernel_rfl
theorem Tryd.ty_zero132 : tzero Tryd.prog 132 = some (.sl true []) := by kernel_rfl
theorem Tryd.ty_elem132 : elemOf' Tryd.prog 132 = some 116 := by kernel_rfl
theorem Tryd.ty_sl132 : isSlice Tryd.prog 132 = true := by kernel_rfl
theorem Tryd.ty_ni132 : notInt Tryd.prog 132 = true := by kernel_rfl
theorem Tryd.ty_b132 : isBool Tryd.prog 132 = false := by kernel_rfl
theorem Tryd.ty_u132 : Tryd.prog.underlying 132 = some (.slice 116) := by kernel_rfl
theorem Tryd.ty_size133 : tsize Tryd.prog 133 = some 8 := by kernel_rfl
theorem Tryd.ty_bytes133 : tbytes Tryd.prog 133 = some 80 := by kernel_rfl
theorem Tryd.ty_agg133 : tagg Tryd.prog 133 = some true := by kernel_rfl
theorem Tryd.ty_zero133 : tzero Tryd.prog 133 = some (.agg [.int .i64 0, .int .i64 0, .int .i64 0, .int .i64 0, .sl true [], .int .i64 0, .int .i64 0, .int .i64 0]) := by kernel_rfl
theorem Tryd.ty_sl133 : isSlice Tryd.prog 133 = false := by kernel_rfl
theorem Tryd.ty_b133 : isBool Tryd.prog 133 = false := by kernel_rfl
theorem Tryd.ty_f133_0 : (fieldOf Tryd.prog 133 0).map (fun d => (d.type, d.offset)) = some (116, 0) := by kernel_rfl
theorem Tryd.ty_fo133_0 : ∃ d, fieldOf Tryd.prog 133 0 = some d ∧ d.type = 116 ∧ d.offset = 0 := fieldOf_some Tryd.ty_f133_0
theorem Tryd.ty_fa133_0 (x : AV) (rows : Nat → ARow) : aFieldAddr Tryd.prog 133 x 0 rows = fieldAddrA Tryd.prog 116 0 x rows := aFieldAddr_of Tryd.ty_fo133_0 x rows
theorem Tryd.ty_ff133_0 (x : AV) : aField Tryd.prog 133 x 0 = fieldA Tryd.prog 116 0 x := aField_of Tryd.ty_fo133_0 x
theorem Tryd.ty_f133_1 : (fieldOf Tryd.prog 133 1).map (fun d => (d.type, d.offset)) = some (3, 1) := by kernel_rfl
theorem Tryd.ty_fo133_1 : ∃ d, fieldOf Tryd.prog 133 1 = some d ∧ d.type = 3 ∧ d.offset = 1 := fieldOf_some Tryd.ty_f133_1
theorem Tryd.ty_fa133_1 (x : AV) (rows : Nat → ARow) : aFieldAddr Tryd.prog 133 x 1 rows = fieldAddrA Tryd.prog 3 1 x rows := aFieldAddr_of Tryd.ty_fo133_1 x rows
theorem Tryd.ty_ff133_1 (x : AV) : aField Tryd.prog 133 x 1 = fieldA Tryd.prog 3 1 x := aField_of Tryd.ty_fo133_1 x
theorem Tryd.ty_f133_2 : (fieldOf Tryd.prog 133 2).map (fun d => (d.type, d.offset)) = some (3, 2) := by kernel_rfl
theorem Tryd.ty_fo133_2 : ∃ d, fieldOf Tryd.prog 133 2 = some d ∧ d.type = 3 ∧ d.offset = 2 := fieldOf_some Tryd.ty_f133_2
theorem Tryd.ty_fa133_2 (x : AV) (rows : Nat → ARow) : aFieldAddr Tryd.prog 133 x 2 rows = fieldAddrA Tryd.prog 3 2 x rows := aFieldAddr_of Tryd.ty_fo133_2 x rows
theorem Tryd.ty_ff133_2 (x : AV) : aField Tryd.prog 133 x 2 = fieldA Tryd.prog 3 2 x := aField_of Tryd.ty_fo133_2 x
theorem Tryd.ty_f133_3 : (fieldOf Tryd.prog 133 3).map (fun d => (d.type, d.offset)) = some (3, 3) := by kernel_rfl
theorem Tryd.ty_fo133_3 : ∃ d, fieldOf Tryd.prog 133 3 = some d ∧ d.type = 3 ∧ d.offset = 3 := fieldOf_some Tryd.ty_f133_3
theorem Tryd.ty_fa133_3 (x : AV) (rows : Nat → ARow) : aFieldAddr Tryd.prog 133 x 3 rows = fieldAddrA Tryd.prog 3 3 x rows := aFieldAddr_of Tryd.ty_fo133_3 x rows
theorem Tryd.ty_ff133_3 (x : AV) : aField Tryd.prog 133 x 3 = fieldA Tryd.prog 3 3 x := aField_of Tryd.ty_fo133_3 x
theorem Tryd.ty_f133_4 : (fieldOf Tryd.prog 133 4).map (fun d => (d.type, d.offset)) = some (132, 4) := by kernel_rfl
theorem Tryd.ty_fo133_4 : ∃ d, fieldOf Tryd.prog 133 4 = some d ∧ d.type = 132 ∧ d.offset = 4 := fieldOf_some Tryd.ty_f133_4
theorem Tryd.ty_fa133_4 (x : AV) (rows : Nat → ARow) : aFieldAddr Tryd.prog 133 x 4 rows = fieldAddrA Tryd.prog 132 4 x rows := aFieldAddr_of Tryd.ty_fo133_4 x rows
theorem Tryd.ty_ff133_4 (x : AV) : aField Tryd.prog 133 x 4 = fieldA Tryd.prog 132 4 x := aField_of Tryd.ty_fo133_4 x
theorem Tryd.ty_f133_5 : (fieldOf Tryd.prog 133 5).map (fun d => (d.type, d.offset)) = some (3, 5) := by kernel_rfl
theorem Tryd.ty_fo133_5 : ∃ d, fieldOf Tryd.prog 133 5 = some d ∧ d.type = 3 ∧ d.offset = 5 := fieldOf_some Tryd.ty_f133_5
theorem Tryd.ty_fa133_5 (x : AV) (rows : Nat → ARow) : aFieldAddr Tryd.prog 133 x 5 rows = fieldAddrA Tryd.prog 3 5 x rows := aFieldAddr_of Tryd.ty_fo133_5 x rows
theorem Tryd.ty_ff133_5 (x : AV) : aField Tryd.prog 133 x 5 = fieldA Tryd.prog 3 5 x := aField_of Tryd.ty_fo133_5 x
theorem Tryd.ty_f133_6 : (fieldOf Tryd.prog 133 6).map (fun d => (d.type, d.offset)) = some (3, 6) := by kernel_rfl
theorem Tryd.ty_fo133_6 : ∃ d, fieldOf Tryd.prog 133 6 = some d ∧ d.type = 3 ∧ d.offset = 6 := fieldOf_some Tryd.ty_f133_6
theorem Tryd.ty_fa133_6 (x : AV) (rows : Nat → ARow) : aFieldAddr Tryd.prog 133 x 6 rows = fieldAddrA Tryd.prog 3 6 x rows := aFieldAddr_of Tryd.ty_fo133_6 x rows
theorem Tryd.ty_ff133_6 (x : AV) : aField Tryd.prog 133 x 6 = fieldA Tryd.prog 3 6 x := aField_of Tryd.ty_fo133_6 x
theorem Tryd.ty_f133_7 : (fieldOf Tryd.prog 133 7).map (fun d => (d.type, d.offset)) = some (116, 7) := by kernel_rfl
theorem Tryd.ty_fo133_7 : ∃ d, fieldOf Tryd.prog 133 7 = some d ∧ d.type = 116 ∧ d.offset = 7 := fieldOf_some Tryd.ty_f133_7
theorem Tryd.ty_fa133_7 (x : AV) (rows : Nat → ARow) : aFieldAddr Tryd.prog 133 x 7 rows = fieldAddrA Tryd.prog 116 7 x rows := aFieldAddr_of Tryd.ty_fo133_7 x rows
theorem Tryd.ty_ff133_7 (x : AV) : aField Tryd.prog 133 x 7 = fieldA Tryd.prog 116 7 x := aField_of Tryd.ty_fo133_7 x
theorem Tryd.ty_bu133 (parts : List (Nat × AV)) : aBuild Tryd.prog 133 parts = (fillA (fun i => ([(0, 1), (1, 1), (2, 1), (3, 1), (4, 1), (5, 1), (6, 1), (7, 1)] : List (Nat × Nat))[i]?) [.int .i64 0, .int .i64 0, .int .i64 0, .int .i64 0, .sl true [], .int .i64 0, .int .i64 0, .int .i64 0] parts).map .agg := aBuild_struct (by kernel_rfl) (by kernel_rfl)
theorem Tryd.ty_size134 : tsize Tryd.prog 134 = some 8 := by kernel_rfl
theorem Tryd.ty_bytes134 : tbytes Tryd.prog 134 = some 80 := by kernel_rfl
theorem Tryd.ty_agg134 : tagg Tryd.prog 134 = some true := by kernel_rfl
theorem Tryd.ty_zero134 : tzero Tryd.prog 134 = some (.agg [.int .i64 0, .int .i64 0, .int .i64 0, .int .i64 0, .sl true [], .int .i64 0, .int .i64 0, .int .i64 0]) := by kernel_rfl
theorem Tryd.ty_sl134 : isSlice Tryd.prog 134 = false := by kernel_rfl
theorem Tryd.ty_b134 : isBool Tryd.prog 134 = false := by kernel_rfl
theorem Tryd.ty_f134_0 : (fieldOf Tryd.prog 134 0).map (fun d => (d.type, d.offset)) = some (116, 0) := by kernel_rfl
theorem Tryd.ty_fo134_0 : ∃ d, fieldOf Tryd.prog 134 0 = some d ∧ d.type = 116 ∧ d.offset = 0 := fieldOf_some Tryd.ty_f134_0
theorem Tryd.ty_fa134_0 (x : AV) (rows : Nat → ARow) : aFieldAddr Tryd.prog 134 x 0 rows = fieldAddrA Tryd.prog 116 0 x rows := aFieldAddr_of Tryd.ty_fo134_0 x rows
theorem Tryd.ty_ff134_0 (x : AV) : aField Tryd.prog 134 x 0 = fieldA Tryd.prog 116 0 x := aField_of Tryd.ty_fo134_0 x
theorem Tryd.ty_f134_1 : (fieldOf Tryd.prog 134 1).map (fun d => (d.type, d.offset)) = some (3, 1) := by kernel_rfl
theorem Tryd.ty_fo134_1 : ∃ d, fieldOf Tryd.prog 134 1 = some d ∧ d.type = 3 ∧ d.offset = 1 := fieldOf_some Tryd.ty_f134_1
theorem Tryd.ty_fa134_1 (x : AV) (rows : Nat → ARow) : aFieldAddr Tryd.prog 134 x 1 rows = fieldAddrA Tryd.prog 3 1 x rows := aFieldAddr_of Tryd.ty_fo134_1 x rows
theorem Tryd.ty_ff134_1 (x : AV) : aField Tryd.prog 134 x 1 = fieldA Tryd.prog 3 1 x := aField_of Tryd.ty_fo134_1 x
theorem Tryd.ty_f134_2 : (fieldOf Tryd.prog 134 2).map (fun d => (d.type, d.offset)) = some (3, 2) := by kernel_rfl
theorem Tryd.ty_fo134_2 : ∃ d, fieldOf Tryd.prog 134 2 = some d ∧ d.type = 3 ∧ d.offset = 2 := fieldOf_some Tryd.ty_f134_2
theorem Tryd.ty_fa134_2 (x : AV) (rows : Nat → ARow) : aFieldAddr Tryd.prog 134 x 2 rows = fieldAddrA Tryd.prog 3 2 x rows := aFieldAddr_of Tryd.ty_fo134_2 x rows
theorem Tryd.ty_ff134_2 (x : AV) : aField Tryd.prog 134 x 2 = fieldA Tryd.prog 3 2 x := aField_of Tryd.ty_fo134_2 x
theorem Tryd.ty_f134_3 : (fieldOf Tryd.prog 134 3).map (fun d => (d.type, d.offset)) = some (3, 3) := by kernel_rfl
theorem Tryd.ty_fo134_3 : ∃ d, fieldOf Tryd.prog 134 3 = some d ∧ d.type = 3 ∧ d.offset = 3 := fieldOf_some Tryd.ty_f134_3
theorem Tryd.ty_fa134_3 (x : AV) (rows : Nat → ARow) : aFieldAddr Tryd.prog 134 x 3 rows = fieldAddrA Tryd.prog 3 3 x rows := aFieldAddr_of Tryd.ty_fo134_3 x rows
theorem Tryd.ty_ff134_3 (x : AV) : aField Tryd.prog 134 x 3 = fieldA Tryd.prog 3 3 x := aField_of Tryd.ty_fo134_3 x
theorem Tryd.ty_f134_4 : (fieldOf Tryd.prog 134 4).map (fun d => (d.type, d.offset)) = some (132, 4) := by kernel_rfl
theorem Tryd.ty_fo134_4 : ∃ d, fieldOf Tryd.prog 134 4 = some d ∧ d.type = 132 ∧ d.offset = 4 := fieldOf_some Tryd.ty_f134_4
theorem Tryd.ty_fa134_4 (x : AV) (rows : Nat → ARow) : aFieldAddr Tryd.prog 134 x 4 rows = fieldAddrA Tryd.prog 132 4 x rows := aFieldAddr_of Tryd.ty_fo134_4 x rows
theorem Tryd.ty_ff134_4 (x : AV) : aField Tryd.prog 134 x 4 = fieldA Tryd.prog 132 4 x := aField_of Tryd.ty_fo134_4 x
theorem Tryd.ty_f134_5 : (fieldOf Tryd.prog 134 5).map (fun d => (d.type, d.offset)) = some (3, 5) := by kernel_rfl
theorem Tryd.ty_fo134_5 : ∃ d, fieldOf Tryd.prog 134 5 = some d ∧ d.type = 3 ∧ d.offset = 5 := fieldOf_some Tryd.ty_f134_5
theorem Tryd.ty_fa134_5 (x : AV) (rows : Nat → ARow) : aFieldAddr Tryd.prog 134 x 5 rows = fieldAddrA Tryd.prog 3 5 x rows := aFieldAddr_of Tryd.ty_fo134_5 x rows
theorem Tryd.ty_ff134_5 (x : AV) : aField Tryd.prog 134 x 5 = fieldA Tryd.prog 3 5 x := aField_of Tryd.ty_fo134_5 x
theorem Tryd.ty_f134_6 : (fieldOf Tryd.prog 134 6).map (fun d => (d.type, d.offset)) = some (3, 6) := by kernel_rfl
theorem Tryd.ty_fo134_6 : ∃ d, fieldOf Tryd.prog 134 6 = some d ∧ d.type = 3 ∧ d.offset = 6 := fieldOf_some Tryd.ty_f134_6
theorem Tryd.ty_fa134_6 (x : AV) (rows : Nat → ARow) : aFieldAddr Tryd.prog 134 x 6 rows = fieldAddrA Tryd.prog 3 6 x rows := aFieldAddr_of Tryd.ty_fo134_6 x rows
theorem Tryd.ty_ff134_6 (x : AV) : aField Tryd.prog 134 x 6 = fieldA Tryd.prog 3 6 x := aField_of Tryd.ty_fo134_6 x
theorem Tryd.ty_f134_7 : (fieldOf Tryd.prog 134 7).map (fun d => (d.type, d.offset)) = some (116, 7) := by kernel_rfl
theorem Tryd.ty_fo134_7 : ∃ d, fieldOf Tryd.prog 134 7 = some d ∧ d.type = 116 ∧ d.offset = 7 := fieldOf_some Tryd.ty_f134_7
theorem Tryd.ty_fa134_7 (x : AV) (rows : Nat → ARow) : aFieldAddr Tryd.prog 134 x 7 rows = fieldAddrA Tryd.prog 116 7 x rows := aFieldAddr_of Tryd.ty_fo134_7 x rows
theorem Tryd.ty_ff134_7 (x : AV) : aField Tryd.prog 134 x 7 = fieldA Tryd.prog 116 7 x := aField_of Tryd.ty_fo134_7 x
theorem Tryd.ty_bu134 (parts : List (Nat × AV)) : aBuild Tryd.prog 134 parts = (fillA (fun i => ([(0, 1), (1, 1), (2, 1), (3, 1), (4, 1), (5, 1), (6, 1), (7, 1)] : List (Nat × Nat))[i]?) [.int .i64 0, .int .i64 0, .int .i64 0, .int .i64 0, .sl true [], .int .i64 0, .int .i64 0, .int .i64 0] parts).map .agg := aBuild_struct (by kernel_rfl) (by kernel_rfl)
theorem Tryd.ty_size135 : tsize Tryd.prog 135 = some 224 := by kernel_rfl
theorem Tryd.ty_bytes135 : tbytes Tryd.prog 135 = some 2240 := by kernel_rfl
theorem Tryd.ty_agg135 : tagg Tryd.prog 135 = some true := by kernel_rfl
theorem Tryd.ty_zero135 : tzero Tryd.prog 135 = some (.agg [.int .i64 0, .int .i64 0, .int .i64 0, .int .i64 0, .sl true [], .int .i64 0, .int .i64 0, .int .i64 0, .int .i64 0, .int .i64 0, .int .i64 0, .int .i64 0, .sl true [], .int .i64 0, .int .i64 0, .int .i64 0, .int .i64 0, .int .i64 0, .int .i64 0, .int .i64 0, .sl true [], .int .i64 0, .int .i64 0, .int .i64 0, .int .i64 0, .int .i64 0, .int .i64 0, .int .i64 0, .sl true [], .int .i64 0, .int .i64 0, .int .i64 0, .int .i64 0, .int .i64 0, .int .i64 0, .int .i64 0, .sl true [], .int .i64 0, .int .i64 0, .int .i64 0, .int .i64 0, .int .i64 0, .int .i64 0, .int .i64 0, .sl true [], .int .i64 0, .int .i64 0, .int .i64 0, .int .i64 0, .int .i64 0, .int .i64 0, .int .i64 0, .sl true [], .int .i64 0, .int .i64 0, .int .i64 0, .int .i64 0, .int .i64 0, .int .i64 0, .int .i64 0, .sl true [], .int .i64 0, .int .i64 0, .int .i64 0, .int .i64 0, .int .i64 0, .int .i64 0, .int .i64 0, .sl true [], .int .i64 0, .int .i64 0, .int .i64 0, .int .i64 0, .int .i64 0, .int .i64 0, .int .i64 0, .sl true [], .int .i64 0, .int .i64 0, .int .i64 0, .int .i64 0, .int .i64 0, .int .i64 0, .int .i64 0, .sl true [], .int .i64 0, .int .i64 0, .int .i64 0, .int .i64 0, .int .i64 0, .int .i64 0, .int .i64 0, .sl true [], .int .i64 0, .int .i64 0, .int .i64 0, .int .i64 0, .int .i64 0, .int .i64 0, .int .i64 0, .sl true [], .int .i64 0, .int .i64 0, .int .i64 0, .int .i64 0, .int .i64 0, .int .i64 0, .int .i64 0, .sl true [], .int .i64 0, .int .i64 0, .int .i64 0, .int .i64 0, .int .i64 0, .int .i64 0, .int .i64 0, .sl true [], .int .i64 0, .int .i64 0, .int .i64 0, .int .i64 0, .int .i64 0, .int .i64 0, .int .i64 0, .sl true [], .int .i64 0, .int .i64 0, .int .i64 0, .int .i64 0, .int .i64 0, .int .i64 0, .int .i64 0, .sl true [], .int .i64 0, .int .i64 0, .int .i64 0, .int .i64 0, .int .i64 0, .int .i64 0, .int .i64 0, .sl true [], .int .i64 0, .int .i64 0, .int .i64 0, .int .i64 0, .int .i64 0, .int .i64 0, .int .i64 0, .sl true [], .int .i64 0, .int .i64 0, .int .i64 0, .int .i64 0, .int .i64 0, .int .i64 0, .int .i64 0, .sl true [], .int .i64 0, .int .i64 0, .int .i64 0, .int .i64 0, .int .i64 0, .int .i64 0, .int .i64 0, .sl true [], .int .i64 0, .int .i64 0, .int .i64 0, .int .i64 0, .int .i64 0, .int .i64 0, .int .i64 0, .sl true [], .int .i64 0, .int .i64 0, .int .i64 0, .int .i64 0, .int .i64 0, .int .i64 0, .int .i64 0, .sl true [], .int .i64 0, .int .i64 0, .int .i64 0, .int .i64 0, .int .i64 0, .int .i64 0, .int .i64 0, .sl true [], .int .i64 0, .int .i64 0, .int .i64 0, .int .i64 0, .int .i64 0, .int .i64 0, .int .i64 0, .sl true [], .int .i64 0, .int .i64 0, .int .i64 0, .int .i64 0, .int .i64 0, .int .i64 0, .int .i64 0, .sl true [], .int .i64 0, .int .i64 0, .int .i64 0, .int .i64 0, .int .i64 0, .int .i64 0, .int .i64 0, .sl true [], .int .i64 0, .int .i64 0, .int .i64 0, .int .i64 0, .int .i64 0, .int .i64 0, .int .i64 0, .sl true [], .int .i64 0, .int .i64 0, .int .i64 0]) := by kernel_rfl
theorem Tryd.ty_sl135 : isSlice Tryd.prog 135 = false := by kernel_rfl
theorem Tryd.ty_b135 : isBool Tryd.prog 135 = false := by kernel_rfl
theorem Tryd.ty_u135 : Tryd.prog.underlying 135 = some (.array 28 134) := by kernel_rfl
theorem Tryd.ty_bu135 (parts : List (Nat × AV)) : aBuild Tryd.prog 135 parts = (fillA (fun i => some (i * 8, 8)) [.int .i64 0, .int .i64 0, .int .i64 0, .int .i64 0, .sl true [], .int .i64 0, .int .i64 0, .int .i64 0, .int .i64 0, .int .i64 0, .int .i64 0, .int .i64 0, .sl true [], .int .i64 0, .int .i64 0, .int .i64 0, .int .i64 0, .int .i64 0, .int .i64 0, .int .i64 0, .sl true [], .int .i64 0, .int .i64 0, .int .i64 0, .int .i64 0, .int .i64 0, .int .i64 0, .int .i64 0, .sl true [], .int .i64 0, .int .i64 0, .int .i64 0, .int .i64 0, .int .i64 0, .int .i64 0, .int .i64 0, .sl true [], .int .i64 0, .int .i64 0, .int .i64 0, .int .i64 0, .int .i64 0, .int .i64 0, .int .i64 0, .sl true [], .int .i64 0, .int .i64 0, .int .i64 0, .int .i64 0, .int .i64 0, .int .i64 0, .int .i64 0, .sl true [], .int .i64 0, .int .i64 0, .int .i64 0, .int .i64 0, .int .i64 0, .int .i64 0, .int .i64 0, .sl true [], .int .i64 0, .int .i64 0, .int .i64 0, .int .i64 0, .int .i64 0, .int .i64 0, .int .i64 0, .sl true [], .int .i64 0, .int .i64 0, .int .i64 0, .int .i64 0, .int .i64 0, .int .i64 0, .int .i64 0, .sl true [], .int .i64 0, .int .i64 0, .int .i64 0, .int .i64 0, .int .i64 0, .int .i64 0, .int .i64 0, .sl true [], .int .i64 0, .int .i64 0, .int .i64 0, .int .i64 0, .int .i64 0, .int .i64 0, .int .i64 0, .sl true [], .int .i64 0, .int .i64 0, .int .i64 0, .int .i64 0, .int .i64 0, .int .i64 0, .int .i64 0, .sl true [], .int .i64 0, .int .i64 0, .int .i64 0, .int .i64 0, .int .i64 0, .int .i64 0, .int .i64 0, .sl true [], .int .i64 0, .int .i64 0, .int .i64 0, .int .i64 0, .int .i64 0, .int .i64 0, .int .i64 0, .sl true [], .int .i64 0, .int .i64 0, .int .i64 0, .int .i64 0, .int .i64 0, .int .i64 0, .int .i64 0, .sl true [], .int .i64 0, .int .i64 0, .int .i64 0, .int .i64 0, .int .i64 0, .int .i64 0, .int .i64 0, .sl true [], .int .i64 0, .int .i64 0, .int .i64 0, .int .i64 0, .int .i64 0, .int .i64 0, .int .i64 0, .sl true [], .int .i64 0, .int .i64 0, .int .i64 0, .int .i64 0, .int .i64 0, .int .i64 0, .int .i64 0, .sl true [], .int .i64 0, .int .i64 0, .int .i64 0, .int .i64 0, .int .i64 0, .int .i64 0, .int .i64 0, .sl true [], .int .i64 0, .int .i64 0, .int .i64 0, .int .i64 0, .int .i64 0, .int .i64 0, .int .i64 0, .sl true [], .int .i64 0, .int .i64 0, .int .i64 0, .int .i64 0, .int .i64 0, .int .i64 0, .int .i64 0, .sl true [], .int .i64 0, .int .i64 0, .int .i64 0, .int .i64 0, .int .i64 0, .int .i64 0, .int .i64 0, .sl true [], .int .i64 0, .int .i64 0, .int .i64 0, .int .i64 0, .int .i64 0, .int .i64 0, .int .i64 0, .sl true [], .int .i64 0, .int .i64 0, .int .i64 0, .int .i64 0, .int .i64 0, .int .i64 0, .int .i64 0, .sl true [], .int .i64 0, .int .i64 0, .int .i64 0, .int .i64 0, .int .i64 0, .int .i64 0, .int .i64 0, .sl true [], .int .i64 0, .int .i64 0, .int .i64 0, .int .i64 0, .int .i64 0, .int .i64 0, .int .i64 0, .sl true [], .int .i64 0, .int .i64 0, .int .i64 0, .int .i64 0, .int .i64 0, .int .i64 0, .int .i64 0, .sl true [], .int .i64 0, .int .i64 0, .int .i64 0] parts).map .agg := aBuild_array (n := 28) (e := 134) (by kernel_rfl) (by kernel_rfl) (by kernel_rfl)
theorem Tryd.ty_size136 : tsize Tryd.prog 136 = some 1 := by kernel_rfl
theorem Tryd.ty_agg136 : tagg Tryd.prog 136 = some false := by kernel_rfl
theorem Tryd.ty_zero136 : tzero Tryd.prog 136 = some .nilfn := by kernel_rfl
theorem Tryd.ty_size137 : tsize Tryd.prog 137 = some 1 := by kernel_rfl
theorem Tryd.ty_agg137 : tagg Tryd.prog 137 = some false := by kernel_rfl
theorem Tryd.ty_zero137 : tzero Tryd.prog 137 = some .nilfn := by kernel_rfl
theorem Tryd.ty_size138 : tsize Tryd.prog 138 = some 1 := by kernel_rfl
theorem Tryd.ty_agg138 : tagg Tryd.prog 138 = some false := by kernel_rfl
theorem Tryd.ty_zero138 : tzero Tryd.prog 138 = some .nilfn := by kernel_rfl
theorem Tryd.ty_size139 : tsize Tryd.prog 139 = some 1 := by kernel_rfl
theorem Tryd.ty_agg139 : tagg Tryd.prog 139 = some false := by kernel_rfl
theorem Tryd.ty_zero139 : tzero Tryd.prog 139 = some .nilfn := by kernel_rfl
theorem Tryd.ty_size141 : tsize Tryd.prog 141 = some 1 := by kernel_rfl
theorem Tryd.ty_agg141 : tagg Tryd.prog 141 = some false := by kernel_rfl
theorem Tryd.ty_zero141 : tzero Tryd.prog 141 = some .nilfn := by kernel_rfl
theorem Tryd.ty_size142 : tsize Tryd.prog 142 = some 1 := by kernel_rfl
theorem Tryd.ty_agg142 : tagg Tryd.prog 142 = some false := by kernel_rfl
theorem Tryd.ty_zero142 : tzero Tryd.prog 142 = some .nilfn := by kernel_rfl
theorem Tryd.ty_size143 : tsize Tryd.prog 143 = some 1 := by kernel_rfl
theorem Tryd.ty_agg143 : tagg Tryd.prog 143 = some false := by kernel_rfl
theorem Tryd.ty_zero143 : tzero Tryd.prog 143 = some .nilfn := by kernel_rfl
theorem Tryd.ty_size144 : tsize Tryd.prog 144 = some 1 := by kernel_rfl
theorem Tryd.ty_agg144 : tagg Tryd.prog 144 = some false := by kernel_rfl
theorem Tryd.ty_zero144 : tzero Tryd.prog 144 = some .nilfn := by kernel_rfl
theorem Tryd.ty_size145 : tsize Tryd.prog 145 = some 1 := by kernel_rfl
theorem Tryd.ty_agg145 : tagg Tryd.prog 145 = some false := by kernel_rfl
theorem Tryd.ty_zero145 : tzero Tryd.prog 145 = some .nilfn := by kernel_rfl
theorem Tryd.ty_size147 : tsize Tryd.prog 147 = some 1 := by kernel_rfl
theorem Tryd.ty_bytes147 : tbytes Tryd.prog 147 = some 8 := by kernel_rfl
theorem Tryd.ty_agg147 : tagg Tryd.prog 147 = some false := by kernel_rfl
theorem Tryd.ty_zero147 : tzero Tryd.prog 147 = some (.mp [] []) := by kernel_rfl
theorem Tryd.ty_sl147 : isSlice Tryd.prog 147 = false := by kernel_rfl
theorem Tryd.ty_b147 : isBool Tryd.prog 147 = false := by kernel_rfl
theorem Tryd.ty_map147 : mapOf Tryd.prog 147 = some (3, 3, .int .i64) := by kernel_rfl
theorem Tryd.ty_u147 : Tryd.prog.underlying 147 = some (.map 3 3) := by kernel_rfl
theorem Tryd.ty_size148 : tsize Tryd.prog 148 = some 1 := by kernel_rfl
theorem Tryd.ty_agg148 : tagg Tryd.prog 148 = some false := by kernel_rfl
theorem Tryd.ty_zero148 : tzero Tryd.prog 148 = some .nilfn := by kernel_rfl
theorem Tryd.ty_size149 : tsize Tryd.prog 149 = some 1 := by kernel_rfl
theorem Tryd.ty_agg149 : tagg Tryd.prog 149 = some false := by kernel_rfl
theorem Tryd.ty_zero149 : tzero Tryd.prog 149 = some .nilfn := by kernel_rfl
theorem Tryd.ty_size150 : tsize Tryd.prog 150 = some 4 := by kernel_rfl
theorem Tryd.ty_bytes150 : tbytes Tryd.prog 150 = some 40 := by kernel_rfl
theorem Tryd.ty_agg150 : tagg Tryd.prog 150 = some true := by kernel_rfl
theorem Tryd.ty_zero150 : tzero Tryd.prog 150 = some (.agg [.nilptr, .nilptr, .nilptr, .str ByteArray.empty]) := by kernel_rfl
theorem Tryd.ty_sl150 : isSlice Tryd.prog 150 = false := by kernel_rfl
theorem Tryd.ty_b150 : isBool Tryd.prog 150 = false := by kernel_rfl
theorem Tryd.ty_f150_0 : (fieldOf Tryd.prog 150 0).map (fun d => (d.type, d.offset)) = some (17, 0) := by kernel_rfl
theorem Tryd.ty_fo150_0 : ∃ d, fieldOf Tryd.prog 150 0 = some d ∧ d.type = 17 ∧ d.offset = 0 := fieldOf_some Tryd.ty_f150_0
theorem Tryd.ty_fa150_0 (x : AV) (rows : Nat → ARow) : aFieldAddr Tryd.prog 150 x 0 rows = fieldAddrA Tryd.prog 17 0 x rows := aFieldAddr_of Tryd.ty_fo150_0 x rows
theorem Tryd.ty_ff150_0 (x : AV) : aField Tryd.prog 150 x 0 = fieldA Tryd.prog 17 0 x := aField_of Tryd.ty_fo150_0 x
theorem Tryd.ty_f150_1 : (fieldOf Tryd.prog 150 1).map (fun d => (d.type, d.offset)) = some (17, 1) := by kernel_rfl
theorem Tryd.ty_fo150_1 : ∃ d, fieldOf Tryd.prog 150 1 = some d ∧ d.type = 17 ∧ d.offset = 1 := fieldOf_some Tryd.ty_f150_1
theorem Tryd.ty_fa150_1 (x : AV) (rows : Nat → ARow) : aFieldAddr Tryd.prog 150 x 1 rows = fieldAddrA Tryd.prog 17 1 x rows := aFieldAddr_of Tryd.ty_fo150_1 x rows
theorem Tryd.ty_ff150_1 (x : AV) : aField Tryd.prog 150 x 1 = fieldA Tryd.prog 17 1 x := aField_of Tryd.ty_fo150_1 x
theorem Tryd.ty_f150_2 : (fieldOf Tryd.prog 150 2).map (fun d => (d.type, d.offset)) = some (17, 2) := by kernel_rfl
theorem Tryd.ty_fo150_2 : ∃ d, fieldOf Tryd.prog 150 2 = some d ∧ d.type = 17 ∧ d.offset = 2 := fieldOf_some Tryd.ty_f150_2
theorem Tryd.ty_fa150_2 (x : AV) (rows : Nat → ARow) : aFieldAddr Tryd.prog 150 x 2 rows = fieldAddrA Tryd.prog 17 2 x rows := aFieldAddr_of Tryd.ty_fo150_2 x rows
theorem Tryd.ty_ff150_2 (x : AV) : aField Tryd.prog 150 x 2 = fieldA Tryd.prog 17 2 x := aField_of Tryd.ty_fo150_2 x
theorem Tryd.ty_f150_3 : (fieldOf Tryd.prog 150 3).map (fun d => (d.type, d.offset)) = some (9, 3) := by kernel_rfl
theorem Tryd.ty_fo150_3 : ∃ d, fieldOf Tryd.prog 150 3 = some d ∧ d.type = 9 ∧ d.offset = 3 := fieldOf_some Tryd.ty_f150_3
theorem Tryd.ty_fa150_3 (x : AV) (rows : Nat → ARow) : aFieldAddr Tryd.prog 150 x 3 rows = fieldAddrA Tryd.prog 9 3 x rows := aFieldAddr_of Tryd.ty_fo150_3 x rows
theorem Tryd.ty_ff150_3 (x : AV) : aField Tryd.prog 150 x 3 = fieldA Tryd.prog 9 3 x := aField_of Tryd.ty_fo150_3 x
theorem Tryd.ty_bu150 (parts : List (Nat × AV)) : aBuild Tryd.prog 150 parts = (fillA (fun i => ([(0, 1), (1, 1), (2, 1), (3, 1)] : List (Nat × Nat))[i]?) [.nilptr, .nilptr, .nilptr, .str ByteArray.empty] parts).map .agg := aBuild_struct (by kernel_rfl) (by kernel_rfl)
theorem Tryd.ty_size151 : tsize Tryd.prog 151 = some 4 := by kernel_rfl
theorem Tryd.ty_bytes151 : tbytes Tryd.prog 151 = some 40 := by kernel_rfl
theorem Tryd.ty_agg151 : tagg Tryd.prog 151 = some true := by kernel_rfl
theorem Tryd.ty_zero151 : tzero Tryd.prog 151 = some (.agg [.nilptr, .nilptr, .nilptr, .str ByteArray.empty]) := by kernel_rfl
theorem Tryd.ty_sl151 : isSlice Tryd.prog 151 = false := by kernel_rfl
theorem Tryd.ty_b151 : isBool Tryd.prog 151 = false := by kernel_rfl
theorem Tryd.ty_f151_0 : (fieldOf Tryd.prog 151 0).map (fun d => (d.type, d.offset)) = some (17, 0) := by kernel_rfl
theorem Tryd.ty_fo151_0 : ∃ d, fieldOf Tryd.prog 151 0 = some d ∧ d.type = 17 ∧ d.offset = 0 := fieldOf_some Tryd.ty_f151_0
theorem Tryd.ty_fa151_0 (x : AV) (rows : Nat → ARow) : aFieldAddr Tryd.prog 151 x 0 rows = fieldAddrA Tryd.prog 17 0 x rows := aFieldAddr_of Tryd.ty_fo151_0 x rows
theorem Tryd.ty_ff151_0 (x : AV) : aField Tryd.prog 151 x 0 = fieldA Tryd.prog 17 0 x := aField_of Tryd.ty_fo151_0 x
theorem Tryd.ty_f151_1 : (fieldOf Tryd.prog 151 1).map (fun d => (d.type, d.offset)) = some (17, 1) := by kernel_rfl
theorem Tryd.ty_fo151_1 : ∃ d, fieldOf Tryd.prog 151 1 = some d ∧ d.type = 17 ∧ d.offset = 1 := fieldOf_some Tryd.ty_f151_1
theorem Tryd.ty_fa151_1 (x : AV) (rows : Nat → ARow) : aFieldAddr Tryd.prog 151 x 1 rows = fieldAddrA Tryd.prog 17 1 x rows := aFieldAddr_of Tryd.ty_fo151_1 x rows
theorem Tryd.ty_ff151_1 (x : AV) : aField Tryd.prog 151 x 1 = fieldA Tryd.prog 17 1 x := aField_of Tryd.ty_fo151_1 x
theorem Tryd.ty_f151_2 : (fieldOf Tryd.prog 151 2).map (fun d => (d.type, d.offset)) = some (17, 2) := by kernel_rfl
theorem Tryd.ty_fo151_2 : ∃ d, fieldOf Tryd.prog 151 2 = some d ∧ d.type = 17 ∧ d.offset = 2 := fieldOf_some Tryd.ty_f151_2
theorem Tryd.ty_fa151_2 (x : AV) (rows : Nat → ARow) : aFieldAddr Tryd.prog 151 x 2 rows = fieldAddrA Tryd.prog 17 2 x rows := aFieldAddr_of Tryd.ty_fo151_2 x rows
theorem Tryd.ty_ff151_2 (x : AV) : aField Tryd.prog 151 x 2 = fieldA Tryd.prog 17 2 x := aField_of Tryd.ty_fo151_2 x
theorem Tryd.ty_f151_3 : (fieldOf Tryd.prog 151 3).map (fun d => (d.type, d.offset)) = some (9, 3) := by kernel_rfl
theorem Tryd.ty_fo151_3 : ∃ d, fieldOf Tryd.prog 151 3 = some d ∧ d.type = 9 ∧ d.offset = 3 := fieldOf_some Tryd.ty_f151_3
theorem Tryd.ty_fa151_3 (x : AV) (rows : Nat → ARow) : aFieldAddr Tryd.prog 151 x 3 rows = fieldAddrA Tryd.prog 9 3 x rows := aFieldAddr_of Tryd.ty_fo151_3 x rows
theorem Tryd.ty_ff151_3 (x : AV) : aField Tryd.prog 151 x 3 = fieldA Tryd.prog 9 3 x := aField_of Tryd.ty_fo151_3 x
theorem Tryd.ty_bu151 (parts : List (Nat × AV)) : aBuild Tryd.prog 151 parts = (fillA (fun i => ([(0, 1), (1, 1), (2, 1), (3, 1)] : List (Nat × Nat))[i]?) [.nilptr, .nilptr, .nilptr, .str ByteArray.empty] parts).map .agg := aBuild_struct (by kernel_rfl) (by kernel_rfl)
theorem Tryd.ty_size152 : tsize Tryd.prog 152 = some 0 := by kernel_rfl
theorem Tryd.ty_bytes152 : tbytes Tryd.prog 152 = some 0 := by kernel_rfl
theorem Tryd.ty_agg152 : tagg Tryd.prog 152 = some true := by kernel_rfl
theorem Tryd.ty_zero152 : tzero Tryd.prog 152 = some (.agg []) := by kernel_rfl
theorem Tryd.ty_sl152 : isSlice Tryd.prog 152 = false := by kernel_rfl
theorem Tryd.ty_b152 : isBool Tryd.prog 152 = false := by kernel_rfl
theorem Tryd.ty_u152 : Tryd.prog.underlying 152 = some (.array 0 16) := by kernel_rfl
theorem Tryd.ty_bu152 (parts : List (Nat × AV)) : aBuild Tryd.prog 152 parts = (fillA (fun i => some (i * 1, 1)) [] parts).map .agg := aBuild_array (n := 0) (e := 16) (by kernel_rfl) (by kernel_rfl) (by kernel_rfl)
theorem Tryd.ty_size153 : tsize Tryd.prog 153 = some 0 := by kernel_rfl
theorem Tryd.ty_bytes153 : tbytes Tryd.prog 153 = some 0 := by kernel_rfl
theorem Tryd.ty_agg153 : tagg Tryd.prog 153 = some true := by kernel_rfl
theorem Tryd.ty_zero153 : tzero Tryd.prog 153 = some (.agg []) := by kernel_rfl
theorem Tryd.ty_sl153 : isSlice Tryd.prog 153 = false := by kernel_rfl
theorem Tryd.ty_b153 : isBool Tryd.prog 153 = false := by kernel_rfl
theorem Tryd.ty_f153_0 : (fieldOf Tryd.prog 153 0).map (fun d => (d.type, d.offset)) = some (152, 0) := by kernel_rfl
theorem Tryd.ty_fo153_0 : ∃ d, fieldOf Tryd.prog 153 0 = some d ∧ d.type = 152 ∧ d.offset = 0 := fieldOf_some Tryd.ty_f153_0
theorem Tryd.ty_fa153_0 (x : AV) (rows : Nat → ARow) : aFieldAddr Tryd.prog 153 x 0 rows = fieldAddrA Tryd.prog 152 0 x rows := aFieldAddr_of Tryd.ty_fo153_0 x rows
theorem Tryd.ty_ff153_0 (x : AV) : aField Tryd.prog 153 x 0 = fieldA Tryd.prog 152 0 x := aField_of Tryd.ty_fo153_0 x
theorem Tryd.ty_bu153 (parts : List (Nat × AV)) : aBuild Tryd.prog 153 parts = (fillA (fun i => ([(0, 0)] : List (Nat × Nat))[i]?) [] parts).map .agg := aBuild_struct (by kernel_rfl) (by kernel_rfl)
theorem Tryd.ty_size154 : tsize Tryd.prog 154 = some 0 := by kernel_rfl
theorem Tryd.ty_bytes154 : tbytes Tryd.prog 154 = some 0 := by kernel_rfl
theorem Tryd.ty_agg154 : tagg Tryd.prog 154 = some true := by kernel_rfl
theorem Tryd.ty_zero154 : tzero Tryd.prog 154 = some (.agg []) := by kernel_rfl
theorem Tryd.ty_sl154 : isSlice Tryd.prog 154 = false := by kernel_rfl
theorem Tryd.ty_b154 : isBool Tryd.prog 154 = false := by kernel_rfl
theorem Tryd.ty_f154_0 : (fieldOf Tryd.prog 154 0).map (fun d => (d.type, d.offset)) = some (152, 0) := by kernel_rfl
theorem Tryd.ty_fo154_0 : ∃ d, fieldOf Tryd.prog 154 0 = some d ∧ d.type = 152 ∧ d.offset = 0 := fieldOf_some Tryd.ty_f154_0
theorem Tryd.ty_fa154_0 (x : AV) (rows : Nat → ARow) : aFieldAddr Tryd.prog 154 x 0 rows = fieldAddrA Tryd.prog 152 0 x rows := aFieldAddr_of Tryd.ty_fo154_0 x rows
theorem Tryd.ty_ff154_0 (x : AV) : aField Tryd.prog 154 x 0 = fieldA Tryd.prog 152 0 x := aField_of Tryd.ty_fo154_0 x
theorem Tryd.ty_bu154 (parts : List (Nat × AV)) : aBuild Tryd.prog 154 parts = (fillA (fun i => ([(0, 0)] : List (Nat × Nat))[i]?) [] parts).map .agg := aBuild_struct (by kernel_rfl) (by kernel_rfl)
theorem Tryd.ty_size155 : tsize Tryd.prog 155 = some 1 := by kernel_rfl
theorem Tryd.ty_agg155 : tagg Tryd.prog 155 = some false := by kernel_rfl
theorem Tryd.ty_zero155 : tzero Tryd.prog 155 = some .nilfn := by kernel_rfl
theorem Tryd.ty_size156 : tsize Tryd.prog 156 = some 1 := by kernel_rfl
theorem Tryd.ty_bytes156 : tbytes Tryd.prog 156 = some 4 := by kernel_rfl
theorem Tryd.ty_agg156 : tagg Tryd.prog 156 = some false := by kernel_rfl
theorem Tryd.ty_zero156 : tzero Tryd.prog 156 = some (.int .u32 0) := by kernel_rfl
theorem Tryd.ty_sl156 : isSlice Tryd.prog 156 = false := by kernel_rfl
theorem Tryd.ty_b156 : isBool Tryd.prog 156 = false := by kernel_rfl
theorem Tryd.ty_u156 : Tryd.prog.underlying 156 = some (.int .u32) := by kernel_rfl
theorem Tryd.ty_size157 : tsize Tryd.prog 157 = some 1 := by kernel_rfl
theorem Tryd.ty_bytes157 : tbytes Tryd.prog 157 = some 1 := by kernel_rfl
theorem Tryd.ty_agg157 : tagg Tryd.prog 157 = some false := by kernel_rfl
theorem Tryd.ty_zero157 : tzero Tryd.prog 157 = some (.int .u8 0) := by kernel_rfl
theorem Tryd.ty_sl157 : isSlice Tryd.prog 157 = false := by kernel_rfl
theorem Tryd.ty_b157 : isBool Tryd.prog 157 = false := by kernel_rfl
theorem Tryd.ty_u157 : Tryd.prog.underlying 157 = some (.int .u8) := by kernel_rfl
theorem Tryd.ty_size158 : tsize Tryd.prog 158 = some 1 := by kernel_rfl
theorem Tryd.ty_bytes158 : tbytes Tryd.prog 158 = some 1 := by kernel_rfl
theorem Tryd.ty_agg158 : tagg Tryd.prog 158 = some false := by kernel_rfl
theorem Tryd.ty_zero158 : tzero Tryd.prog 158 = some (.int .u8 0) := by kernel_rfl
theorem Tryd.ty_sl158 : isSlice Tryd.prog 158 = false := by kernel_rfl
theorem Tryd.ty_b158 : isBool Tryd.prog 158 = false := by kernel_rfl
theorem Tryd.ty_u158 : Tryd.prog.underlying 158 = some (.int .u8) := by kernel_rfl
theorem Tryd.ty_size159 : tsize Tryd.prog 159 = some 1 := by kernel_rfl
theorem Tryd.ty_agg159 : tagg Tryd.prog 159 = some false := by kernel_rfl
theorem Tryd.ty_zero159 : tzero Tryd.prog 159 = some .nilfn := by kernel_rfl
theorem Tryd.ty_size160 : tsize Tryd.prog 160 = some 1 := by kernel_rfl
theorem Tryd.ty_bytes160 : tbytes Tryd.prog 160 = some 8 := by kernel_rfl
theorem Tryd.ty_agg160 : tagg Tryd.prog 160 = some false := by kernel_rfl
theorem Tryd.ty_zero160 : tzero Tryd.prog 160 = some (.nilptr) := by kernel_rfl
theorem Tryd.ty_sl160 : isSlice Tryd.prog 160 = false := by kernel_rfl
theorem Tryd.ty_b160 : isBool Tryd.prog 160 = false := by kernel_rfl
theorem Tryd.ty_size161 : tsize Tryd.prog 161 = some 1 := by kernel_rfl
theorem Tryd.ty_bytes161 : tbytes Tryd.prog 161 = some 4 := by kernel_rfl
theorem Tryd.ty_agg161 : tagg Tryd.prog 161 = some false := by kernel_rfl
theorem Tryd.ty_zero161 : tzero Tryd.prog 161 = some (.int .i32 0) := by kernel_rfl
theorem Tryd.ty_sl161 : isSlice Tryd.prog 161 = false := by kernel_rfl
theorem Tryd.ty_b161 : isBool Tryd.prog 161 = false := by kernel_rfl
theorem Tryd.ty_u161 : Tryd.prog.underlying 161 = some (.int .i32) := by kernel_rfl
theorem Tryd.ty_size162 : tsize Tryd.prog 162 = some 1 := by kernel_rfl
theorem Tryd.ty_bytes162 : tbytes Tryd.prog 162 = some 4 := by kernel_rfl
theorem Tryd.ty_agg162 : tagg Tryd.prog 162 = some false := by kernel_rfl
theorem Tryd.ty_zero162 : tzero Tryd.prog 162 = some (.int .i32 0) := by kernel_rfl
theorem Tryd.ty_sl162 : isSlice Tryd.prog 162 = false := by kernel_rfl
theorem Tryd.ty_b162 : isBool Tryd.prog 162 = false := by kernel_rfl
theorem Tryd.ty_u162 : Tryd.prog.underlying 162 = some (.int .i32) := by kernel_rfl
theorem Tryd.ty_size163 : tsize Tryd.prog 163 = some 11 := by kernel_rfl
theorem Tryd.ty_bytes163 : tbytes Tryd.prog 163 = some 48 := by kernel_rfl
theorem Tryd.ty_agg163 : tagg Tryd.prog 163 = some true := by kernel_rfl
theorem Tryd.ty_zero163 : tzero Tryd.prog 163 = some (.agg [.int .u64 0, .int .u64 0, .int .u32 0, .int .u8 0, .int .u8 0, .int .u8 0, .int .u8 0, .nilfn, .nilptr, .int .i32 0, .int .i32 0]) := by kernel_rfl
theorem Tryd.ty_sl163 : isSlice Tryd.prog 163 = false := by kernel_rfl
theorem Tryd.ty_b163 : isBool Tryd.prog 163 = false := by kernel_rfl
theorem Tryd.ty_f163_0 : (fieldOf Tryd.prog 163 0).map (fun d => (d.type, d.offset)) = some (12, 0) := by kernel_rfl
theorem Tryd.ty_fo163_0 : ∃ d, fieldOf Tryd.prog 163 0 = some d ∧ d.type = 12 ∧ d.offset = 0 := fieldOf_some Tryd.ty_f163_0
theorem Tryd.ty_fa163_0 (x : AV) (rows : Nat → ARow) : aFieldAddr Tryd.prog 163 x 0 rows = fieldAddrA Tryd.prog 12 0 x rows := aFieldAddr_of Tryd.ty_fo163_0 x rows
theorem Tryd.ty_ff163_0 (x : AV) : aField Tryd.prog 163 x 0 = fieldA Tryd.prog 12 0 x := aField_of Tryd.ty_fo163_0 x
theorem Tryd.ty_f163_1 : (fieldOf Tryd.prog 163 1).map (fun d => (d.type, d.offset)) = some (12, 1) := by kernel_rfl
theorem Tryd.ty_fo163_1 : ∃ d, fieldOf Tryd.prog 163 1 = some d ∧ d.type = 12 ∧ d.offset = 1 := fieldOf_some Tryd.ty_f163_1
theorem Tryd.ty_fa163_1 (x : AV) (rows : Nat → ARow) : aFieldAddr Tryd.prog 163 x 1 rows = fieldAddrA Tryd.prog 12 1 x rows := aFieldAddr_of Tryd.ty_fo163_1 x rows
theorem Tryd.ty_ff163_1 (x : AV) : aField Tryd.prog 163 x 1 = fieldA Tryd.prog 12 1 x := aField_of Tryd.ty_fo163_1 x
theorem Tryd.ty_f163_2 : (fieldOf Tryd.prog 163 2).map (fun d => (d.type, d.offset)) = some (156, 2) := by kernel_rfl
theorem Tryd.ty_fo163_2 : ∃ d, fieldOf Tryd.prog 163 2 = some d ∧ d.type = 156 ∧ d.offset = 2 := fieldOf_some Tryd.ty_f163_2
theorem Tryd.ty_fa163_2 (x : AV) (rows : Nat → ARow) : aFieldAddr Tryd.prog 163 x 2 rows = fieldAddrA Tryd.prog 156 2 x rows := aFieldAddr_of Tryd.ty_fo163_2 x rows
theorem Tryd.ty_ff163_2 (x : AV) : aField Tryd.prog 163 x 2 = fieldA Tryd.prog 156 2 x := aField_of Tryd.ty_fo163_2 x
theorem Tryd.ty_f163_3 : (fieldOf Tryd.prog 163 3).map (fun d => (d.type, d.offset)) = some (157, 3) := by kernel_rfl
theorem Tryd.ty_fo163_3 : ∃ d, fieldOf Tryd.prog 163 3 = some d ∧ d.type = 157 ∧ d.offset = 3 := fieldOf_some Tryd.ty_f163_3
theorem Tryd.ty_fa163_3 (x : AV) (rows : Nat → ARow) : aFieldAddr Tryd.prog 163 x 3 rows = fieldAddrA Tryd.prog 157 3 x rows := aFieldAddr_of Tryd.ty_fo163_3 x rows
theorem Tryd.ty_ff163_3 (x : AV) : aField Tryd.prog 163 x 3 = fieldA Tryd.prog 157 3 x := aField_of Tryd.ty_fo163_3 x
theorem Tryd.ty_f163_4 : (fieldOf Tryd.prog 163 4).map (fun d => (d.type, d.offset)) = some (5, 4) := by kernel_rfl
theorem Tryd.ty_fo163_4 : ∃ d, fieldOf Tryd.prog 163 4 = some d ∧ d.type = 5 ∧ d.offset = 4 := fieldOf_some Tryd.ty_f163_4
theorem Tryd.ty_fa163_4 (x : AV) (rows : Nat → ARow) : aFieldAddr Tryd.prog 163 x 4 rows = fieldAddrA Tryd.prog 5 4 x rows := aFieldAddr_of Tryd.ty_fo163_4 x rows
theorem Tryd.ty_ff163_4 (x : AV) : aField Tryd.prog 163 x 4 = fieldA Tryd.prog 5 4 x := aField_of Tryd.ty_fo163_4 x
theorem Tryd.ty_f163_5 : (fieldOf Tryd.prog 163 5).map (fun d => (d.type, d.offset)) = some (5, 5) := by kernel_rfl
theorem Tryd.ty_fo163_5 : ∃ d, fieldOf Tryd.prog 163 5 = some d ∧ d.type = 5 ∧ d.offset = 5 := fieldOf_some Tryd.ty_f163_5
theorem Tryd.ty_fa163_5 (x : AV) (rows : Nat → ARow) : aFieldAddr Tryd.prog 163 x 5 rows = fieldAddrA Tryd.prog 5 5 x rows := aFieldAddr_of Tryd.ty_fo163_5 x rows
theorem Tryd.ty_ff163_5 (x : AV) : aField Tryd.prog 163 x 5 = fieldA Tryd.prog 5 5 x := aField_of Tryd.ty_fo163_5 x
theorem Tryd.ty_f163_6 : (fieldOf Tryd.prog 163 6).map (fun d => (d.type, d.offset)) = some (158, 6) := by kernel_rfl
theorem Tryd.ty_fo163_6 : ∃ d, fieldOf Tryd.prog 163 6 = some d ∧ d.type = 158 ∧ d.offset = 6 := fieldOf_some Tryd.ty_f163_6
theorem Tryd.ty_fa163_6 (x : AV) (rows : Nat → ARow) : aFieldAddr Tryd.prog 163 x 6 rows = fieldAddrA Tryd.prog 158 6 x rows := aFieldAddr_of Tryd.ty_fo163_6 x rows
theorem Tryd.ty_ff163_6 (x : AV) : aField Tryd.prog 163 x 6 = fieldA Tryd.prog 158 6 x := aField_of Tryd.ty_fo163_6 x
theorem Tryd.ty_f163_7 : (fieldOf Tryd.prog 163 7).map (fun d => (d.type, d.offset)) = some (159, 7) := by kernel_rfl
theorem Tryd.ty_fo163_7 : ∃ d, fieldOf Tryd.prog 163 7 = some d ∧ d.type = 159 ∧ d.offset = 7 := fieldOf_some Tryd.ty_f163_7
theorem Tryd.ty_fa163_7 (x : AV) (rows : Nat → ARow) : aFieldAddr Tryd.prog 163 x 7 rows = fieldAddrA Tryd.prog 159 7 x rows := aFieldAddr_of Tryd.ty_fo163_7 x rows
theorem Tryd.ty_ff163_7 (x : AV) : aField Tryd.prog 163 x 7 = fieldA Tryd.prog 159 7 x := aField_of Tryd.ty_fo163_7 x
theorem Tryd.ty_f163_8 : (fieldOf Tryd.prog 163 8).map (fun d => (d.type, d.offset)) = some (160, 8) := by kernel_rfl
theorem Tryd.ty_fo163_8 : ∃ d, fieldOf Tryd.prog 163 8 = some d ∧ d.type = 160 ∧ d.offset = 8 := fieldOf_some Tryd.ty_f163_8
theorem Tryd.ty_fa163_8 (x : AV) (rows : Nat → ARow) : aFieldAddr Tryd.prog 163 x 8 rows = fieldAddrA Tryd.prog 160 8 x rows := aFieldAddr_of Tryd.ty_fo163_8 x rows
theorem Tryd.ty_ff163_8 (x : AV) : aField Tryd.prog 163 x 8 = fieldA Tryd.prog 160 8 x := aField_of Tryd.ty_fo163_8 x
theorem Tryd.ty_f163_9 : (fieldOf Tryd.prog 163 9).map (fun d => (d.type, d.offset)) = some (161, 9) := by kernel_rfl
theorem Tryd.ty_fo163_9 : ∃ d, fieldOf Tryd.prog 163 9 = some d ∧ d.type = 161 ∧ d.offset = 9 := fieldOf_some Tryd.ty_f163_9
theorem Tryd.ty_fa163_9 (x : AV) (rows : Nat → ARow) : aFieldAddr Tryd.prog 163 x 9 rows = fieldAddrA Tryd.prog 161 9 x rows := aFieldAddr_of Tryd.ty_fo163_9 x rows
theorem Tryd.ty_ff163_9 (x : AV) : aField Tryd.prog 163 x 9 = fieldA Tryd.prog 161 9 x := aField_of Tryd.ty_fo163_9 x
theorem Tryd.ty_f163_10 : (fieldOf Tryd.prog 163 10).map (fun d => (d.type, d.offset)) = some (162, 10) := by kernel_rfl
theorem Tryd.ty_fo163_10 : ∃ d, fieldOf Tryd.prog 163 10 = some d ∧ d.type = 162 ∧ d.offset = 10 := fieldOf_some Tryd.ty_f163_10
theorem Tryd.ty_fa163_10 (x : AV) (rows : Nat → ARow) : aFieldAddr Tryd.prog 163 x 10 rows = fieldAddrA Tryd.prog 162 10 x rows := aFieldAddr_of Tryd.ty_fo163_10 x rows
theorem Tryd.ty_ff163_10 (x : AV) : aField Tryd.prog 163 x 10 = fieldA Tryd.prog 162 10 x := aField_of Tryd.ty_fo163_10 x
theorem Tryd.ty_bu163 (parts : List (Nat × AV)) : aBuild Tryd.prog 163 parts = (fillA (fun i => ([(0, 1), (1, 1), (2, 1), (3, 1), (4, 1), (5, 1), (6, 1), (7, 1), (8, 1), (9, 1), (10, 1)] : List (Nat × Nat))[i]?) [.int .u64 0, .int .u64 0, .int .u32 0, .int .u8 0, .int .u8 0, .int .u8 0, .int .u8 0, .nilfn, .nilptr, .int .i32 0, .int .i32 0] parts).map .agg := aBuild_struct (by kernel_rfl) (by kernel_rfl)
theorem Tryd.ty_size164 : tsize Tryd.prog 164 = some 11 := by kernel_rfl
theorem Tryd.ty_bytes164 : tbytes Tryd.prog 164 = some 48 := by kernel_rfl
theorem Tryd.ty_agg164 : tagg Tryd.prog 164 = some true := by kernel_rfl
theorem Tryd.ty_zero164 : tzero Tryd.prog 164 = some (.agg [.int .u64 0, .int .u64 0, .int .u32 0, .int .u8 0, .int .u8 0, .int .u8 0, .int .u8 0, .nilfn, .nilptr, .int .i32 0, .int .i32 0]) := by kernel_rfl
theorem Tryd.ty_sl164 : isSlice Tryd.prog 164 = false := by kernel_rfl
theorem Tryd.ty_b164 : isBool Tryd.prog 164 = false := by kernel_rfl
theorem Tryd.ty_f164_0 : (fieldOf Tryd.prog 164 0).map (fun d => (d.type, d.offset)) = some (12, 0) := by kernel_rfl
theorem Tryd.ty_fo164_0 : ∃ d, fieldOf Tryd.prog 164 0 = some d ∧ d.type = 12 ∧ d.offset = 0 := fieldOf_some Tryd.ty_f164_0
theorem Tryd.ty_fa164_0 (x : AV) (rows : Nat → ARow) : aFieldAddr Tryd.prog 164 x 0 rows = fieldAddrA Tryd.prog 12 0 x rows := aFieldAddr_of Tryd.ty_fo164_0 x rows
theorem Tryd.ty_ff164_0 (x : AV) : aField Tryd.prog 164 x 0 = fieldA Tryd.prog 12 0 x := aField_of Tryd.ty_fo164_0 x
theorem Tryd.ty_f164_1 : (fieldOf Tryd.prog 164 1).map (fun d => (d.type, d.offset)) = some (12, 1) := by kernel_rfl
theorem Tryd.ty_fo164_1 : ∃ d, fieldOf Tryd.prog 164 1 = some d ∧ d.type = 12 ∧ d.offset = 1 := fieldOf_some Tryd.ty_f164_1
theorem Tryd.ty_fa164_1 (x : AV) (rows : Nat → ARow) : aFieldAddr Tryd.prog 164 x 1 rows = fieldAddrA Tryd.prog 12 1 x rows := aFieldAddr_of Tryd.ty_fo164_1 x rows
theorem Tryd.ty_ff164_1 (x : AV) : aField Tryd.prog 164 x 1 = fieldA Tryd.prog 12 1 x := aField_of Tryd.ty_fo164_1 x
theorem Tryd.ty_f164_2 : (fieldOf Tryd.prog 164 2).map (fun d => (d.type, d.offset)) = some (156, 2) := by kernel_rfl
theorem Tryd.ty_fo164_2 : ∃ d, fieldOf Tryd.prog 164 2 = some d ∧ d.type = 156 ∧ d.offset = 2 := fieldOf_some Tryd.ty_f164_2
theorem Tryd.ty_fa164_2 (x : AV) (rows : Nat → ARow) : aFieldAddr Tryd.prog 164 x 2 rows = fieldAddrA Tryd.prog 156 2 x rows := aFieldAddr_of Tryd.ty_fo164_2 x rows
theorem Tryd.ty_ff164_2 (x : AV) : aField Tryd.prog 164 x 2 = fieldA Tryd.prog 156 2 x := aField_of Tryd.ty_fo164_2 x
theorem Tryd.ty_f164_3 : (fieldOf Tryd.prog 164 3).map (fun d => (d.type, d.offset)) = some (157, 3) := by kernel_rfl
theorem Tryd.ty_fo164_3 : ∃ d, fieldOf Tryd.prog 164 3 = some d ∧ d.type = 157 ∧ d.offset = 3 := fieldOf_some Tryd.ty_f164_3
theorem Tryd.ty_fa164_3 (x : AV) (rows : Nat → ARow) : aFieldAddr Tryd.prog 164 x 3 rows = fieldAddrA Tryd.prog 157 3 x rows := aFieldAddr_of Tryd.ty_fo164_3 x rows
theorem Tryd.ty_ff164_3 (x : AV) : aField Tryd.prog 164 x 3 = fieldA Tryd.prog 157 3 x := aField_of Tryd.ty_fo164_3 x
theorem Tryd.ty_f164_4 : (fieldOf Tryd.prog 164 4).map (fun d => (d.type, d.offset)) = some (5, 4) := by kernel_rfl
theorem Tryd.ty_fo164_4 : ∃ d, fieldOf Tryd.prog 164 4 = some d ∧ d.type = 5 ∧ d.offset = 4 := fieldOf_some Tryd.ty_f164_4
theorem Tryd.ty_fa164_4 (x : AV) (rows : Nat → ARow) : aFieldAddr Tryd.prog 164 x 4 rows = fieldAddrA Tryd.prog 5 4 x rows := aFieldAddr_of Tryd.ty_fo164_4 x rows
theorem Tryd.ty_ff164_4 (x : AV) : aField Tryd.prog 164 x 4 = fieldA Tryd.prog 5 4 x := aField_of Tryd.ty_fo164_4 x
theorem Tryd.ty_f164_5 : (fieldOf Tryd.prog 164 5).map (fun d => (d.type, d.offset)) = some (5, 5) := by kernel_rfl
theorem Tryd.ty_fo164_5 : ∃ d, fieldOf Tryd.prog 164 5 = some d ∧ d.type = 5 ∧ d.offset = 5 := fieldOf_some Tryd.ty_f164_5
theorem Tryd.ty_fa164_5 (x : AV) (rows : Nat → ARow) : aFieldAddr Tryd.prog 164 x 5 rows = fieldAddrA Tryd.prog 5 5 x rows := aFieldAddr_of Tryd.ty_fo164_5 x rows
theorem Tryd.ty_ff164_5 (x : AV) : aField Tryd.prog 164 x 5 = fieldA Tryd.prog 5 5 x := aField_of Tryd.ty_fo164_5 x
theorem Tryd.ty_f164_6 : (fieldOf Tryd.prog 164 6).map (fun d => (d.type, d.offset)) = some (158, 6) := by kernel_rfl
theorem Tryd.ty_fo164_6 : ∃ d, fieldOf Tryd.prog 164 6 = some d ∧ d.type = 158 ∧ d.offset = 6 := fieldOf_some Tryd.ty_f164_6
theorem Tryd.ty_fa164_6 (x : AV) (rows : Nat → ARow) : aFieldAddr Tryd.prog 164 x 6 rows = fieldAddrA Tryd.prog 158 6 x rows := aFieldAddr_of Tryd.ty_fo164_6 x rows
theorem Tryd.ty_ff164_6 (x : AV) : aField Tryd.prog 164 x 6 = fieldA Tryd.prog 158 6 x := aField_of Tryd.ty_fo164_6 x
theorem Tryd.ty_f164_7 : (fieldOf Tryd.prog 164 7).map (fun d => (d.type, d.offset)) = some (159, 7) := by kernel_rfl
theorem Tryd.ty_fo164_7 : ∃ d, fieldOf Tryd.prog 164 7 = some d ∧ d.type = 159 ∧ d.offset = 7 := fieldOf_some Tryd.ty_f164_7
theorem Tryd.ty_fa164_7 (x : AV) (rows : Nat → ARow) : aFieldAddr Tryd.prog 164 x 7 rows = fieldAddrA Tryd.prog 159 7 x rows := aFieldAddr_of Tryd.ty_fo164_7 x rows
theorem Tryd.ty_ff164_7 (x : AV) : aField Tryd.prog 164 x 7 = fieldA Tryd.prog 159 7 x := aField_of Tryd.ty_fo164_7 x
theorem Tryd.ty_f164_8 : (fieldOf Tryd.prog 164 8).map (fun d => (d.type, d.offset)) = some (160, 8) := by kernel_rfl
theorem Tryd.ty_fo164_8 : ∃ d, fieldOf Tryd.prog 164 8 = some d ∧ d.type = 160 ∧ d.offset = 8 := fieldOf_some Tryd.ty_f164_8
theorem Tryd.ty_fa164_8 (x : AV) (rows : Nat → ARow) : aFieldAddr Tryd.prog 164 x 8 rows = fieldAddrA Tryd.prog 160 8 x rows := aFieldAddr_of Tryd.ty_fo164_8 x rows
theorem Tryd.ty_ff164_8 (x : AV) : aField Tryd.prog 164 x 8 = fieldA Tryd.prog 160 8 x := aField_of Tryd.ty_fo164_8 x
theorem Tryd.ty_f164_9 : (fieldOf Tryd.prog 164 9).map (fun d => (d.type, d.offset)) = some (161, 9) := by kernel_rfl
theorem Tryd.ty_fo164_9 : ∃ d, fieldOf Tryd.prog 164 9 = some d ∧ d.type = 161 ∧ d.offset = 9 := fieldOf_some Tryd.ty_f164_9
theorem Tryd.ty_fa164_9 (x : AV) (rows : Nat → ARow) : aFieldAddr Tryd.prog 164 x 9 rows = fieldAddrA Tryd.prog 161 9 x rows := aFieldAddr_of Tryd.ty_fo164_9 x rows
theorem Tryd.ty_ff164_9 (x : AV) : aField Tryd.prog 164 x 9 = fieldA Tryd.prog 161 9 x := aField_of Tryd.ty_fo164_9 x
theorem Tryd.ty_f164_10 : (fieldOf Tryd.prog 164 10).map (fun d => (d.type, d.offset)) = some (162, 10) := by kernel_rfl
theorem Tryd.ty_fo164_10 : ∃ d, fieldOf Tryd.prog 164 10 = some d ∧ d.type = 162 ∧ d.offset = 10 := fieldOf_some Tryd.ty_f164_10
theorem Tryd.ty_fa164_10 (x : AV) (rows : Nat → ARow) : aFieldAddr Tryd.prog 164 x 10 rows = fieldAddrA Tryd.prog 162 10 x rows := aFieldAddr_of Tryd.ty_fo164_10 x rows
theorem Tryd.ty_ff164_10 (x : AV) : aField Tryd.prog 164 x 10 = fieldA Tryd.prog 162 10 x := aField_of Tryd.ty_fo164_10 x
theorem Tryd.ty_bu164 (parts : List (Nat × AV)) : aBuild Tryd.prog 164 parts = (fillA (fun i => ([(0, 1), (1, 1), (2, 1), (3, 1), (4, 1), (5, 1), (6, 1), (7, 1), (8, 1), (9, 1), (10, 1)] : List (Nat × Nat))[i]?) [.int .u64 0, .int .u64 0, .int .u32 0, .int .u8 0, .int .u8 0, .int .u8 0, .int .u8 0, .nilfn, .nilptr, .int .i32 0, .int .i32 0] parts).map .agg := aBuild_struct (by kernel_rfl) (by kernel_rfl)
theorem Tryd.ty_size165 : tsize Tryd.prog 165 = some 1 := by kernel_rfl
theorem Tryd.ty_bytes165 : tbytes Tryd.prog 165 = some 8 := by kernel_rfl
theorem Tryd.ty_agg165 : tagg Tryd.prog 165 = some false := by kernel_rfl
theorem Tryd.ty_zero165 : tzero Tryd.prog 165 = some (.nilptr) := by kernel_rfl
theorem Tryd.ty_sl165 : isSlice Tryd.prog 165 = false := by kernel_rfl
theorem Tryd.ty_b165 : isBool Tryd.prog 165 = false := by kernel_rfl
theorem Tryd.ty_size166 : tsize Tryd.prog 166 = some 1 := by kernel_rfl
theorem Tryd.ty_bytes166 : tbytes Tryd.prog 166 = some 8 := by kernel_rfl
theorem Tryd.ty_agg166 : tagg Tryd.prog 166 = some false := by kernel_rfl
theorem Tryd.ty_zero166 : tzero Tryd.prog 166 = some (.int .u64 0) := by kernel_rfl
theorem Tryd.ty_sl166 : isSlice Tryd.prog 166 = false := by kernel_rfl
theorem Tryd.ty_b166 : isBool Tryd.prog 166 = false := by kernel_rfl
theorem Tryd.ty_u166 : Tryd.prog.underlying 166 = some (.int .u64) := by kernel_rfl
theorem Tryd.ty_size167 : tsize Tryd.prog 167 = some 1 := by kernel_rfl
theorem Tryd.ty_agg167 : tagg Tryd.prog 167 = some false := by kernel_rfl
theorem Tryd.ty_zero167 : tzero Tryd.prog 167 = some .nilfn := by kernel_rfl
/-- All of them, for simp. -/
theorem tyS : type_of% ((And.intro (And.intro (And.intro (And.intro (And.intro (And.intro (And.intro (And.intro (And.intro (And.intro Tryd.ty_size1 Tryd.ty_agg1) (And.intro Tryd.ty_zero1 Tryd.ty_size2)) (And.intro (And.intro Tryd.ty_bytes2 Tryd.ty_agg2) (And.intro Tryd.ty_zero2 Tryd.ty_sl2))) (And.intro (And.intro (And.intro Tryd.ty_b2 Tryd.ty_u2) (And.intro Tryd.ty_size3 Tryd.ty_bytes3)) (And.intro (And.intro Tryd.ty_agg3 Tryd.ty_zero3) (And.intro Tryd.ty_sl3 (And.intro Tryd.ty_b3 Tryd.ty_u3))))) (And.intro (And.intro (And.intro (And.intro Tryd.ty_size4 Tryd.ty_bytes4) (And.intro Tryd.ty_agg4 Tryd.ty_zero4)) (And.intro (And.intro Tryd.ty_sl4 Tryd.ty_b4) (And.intro Tryd.ty_size5 Tryd.ty_bytes5))) (And.intro (And.intro (And.intro Tryd.ty_agg5 Tryd.ty_zero5) (And.intro Tryd.ty_sl5 Tryd.ty_b5)) (And.intro (And.intro Tryd.ty_u5 Tryd.ty_size6) (And.intro Tryd.ty_bytes6 (And.intro Tryd.ty_agg6 Tryd.ty_zero6)))))) (And.intro (And.intro (And.intro (And.intro (And.intro Tryd.ty_sl6 Tryd.ty_b6) (And.intro Tryd.ty_u6 Tryd.ty_size7)) (And.intro (And.intro Tryd.ty_bytes7 Tryd.ty_agg7) (And.intro Tryd.ty_zero7 Tryd.ty_sl7))) (And.intro (And.intro (And.intro Tryd.ty_b7 Tryd.ty_fa7_0) (And.intro Tryd.ty_ff7_0 Tryd.ty_fa7_1)) (And.intro (And.intro Tryd.ty_ff7_1 Tryd.ty_fa7_2) (And.intro Tryd.ty_ff7_2 (And.intro Tryd.ty_fa7_3 Tryd.ty_ff7_3))))) (And.intro (And.intro (And.intro (And.intro Tryd.ty_bu7 Tryd.ty_size8) (And.intro Tryd.ty_bytes8 Tryd.ty_agg8)) (And.intro (And.intro Tryd.ty_zero8 Tryd.ty_sl8) (And.intro Tryd.ty_b8 Tryd.ty_fa8_0))) (And.intro (And.intro (And.intro Tryd.ty_ff8_0 Tryd.ty_fa8_1) (And.intro Tryd.ty_ff8_1 Tryd.ty_fa8_2)) (And.intro (And.intro Tryd.ty_ff8_2 Tryd.ty_fa8_3) (And.intro Tryd.ty_ff8_3 (And.intro Tryd.ty_bu8 Tryd.ty_size9))))))) (And.intro (And.intro (And.intro (And.intro (And.intro (And.intro Tryd.ty_bytes9 Tryd.ty_agg9) (And.intro Tryd.ty_zero9 Tryd.ty_sl9)) (And.intro (And.intro Tryd.ty_ni9 Tryd.ty_b9) (And.intro Tryd.ty_u9 Tryd.ty_size10))) (And.intro (And.intro (And.intro Tryd.ty_bytes10 Tryd.ty_agg10) (And.intro Tryd.ty_zero10 Tryd.ty_sl10)) (And.intro (And.intro Tryd.ty_ni10 Tryd.ty_b10) (And.intro Tryd.ty_u10 (And.intro Tryd.ty_size11 Tryd.ty_bytes11))))) (And.intro (And.intro (And.intro (And.intro Tryd.ty_agg11 Tryd.ty_zero11) (And.intro Tryd.ty_sl11 Tryd.ty_ni11)) (And.intro (And.intro Tryd.ty_b11 Tryd.ty_u11) (And.intro Tryd.ty_size12 Tryd.ty_bytes12))) (And.intro (And.intro (And.intro Tryd.ty_agg12 Tryd.ty_zero12) (And.intro Tryd.ty_sl12 Tryd.ty_b12)) (And.intro (And.intro Tryd.ty_u12 Tryd.ty_size13) (And.intro Tryd.ty_bytes13 (And.intro Tryd.ty_agg13 Tryd.ty_zero13)))))) (And.intro (And.intro (And.intro (And.intro (And.intro Tryd.ty_sl13 Tryd.ty_b13) (And.intro Tryd.ty_fa13_0 Tryd.ty_ff13_0)) (And.intro (And.intro Tryd.ty_fa13_1 Tryd.ty_ff13_1) (And.intro Tryd.ty_bu13 Tryd.ty_size14))) (And.intro (And.intro (And.intro Tryd.ty_bytes14 Tryd.ty_agg14) (And.intro Tryd.ty_zero14 Tryd.ty_sl14)) (And.intro (And.intro Tryd.ty_b14 Tryd.ty_fa14_0) (And.intro Tryd.ty_ff14_0 (And.intro Tryd.ty_fa14_1 Tryd.ty_ff14_1))))) (And.intro (And.intro (And.intro (And.intro Tryd.ty_bu14 Tryd.ty_size15) (And.intro Tryd.ty_bytes15 Tryd.ty_agg15)) (And.intro (And.intro Tryd.ty_zero15 Tryd.ty_sl15) (And.intro Tryd.ty_b15 Tryd.ty_size16))) (And.intro (And.intro (And.intro Tryd.ty_bytes16 Tryd.ty_agg16) (And.intro Tryd.ty_zero16 Tryd.ty_sl16)) (And.intro (And.intro Tryd.ty_b16 Tryd.ty_size17) (And.intro Tryd.ty_bytes17 (And.intro Tryd.ty_agg17 Tryd.ty_zero17)))))))) (And.intro (And.intro (And.intro (And.intro (And.intro (And.intro (And.intro Tryd.ty_sl17 Tryd.ty_b17) (And.intro Tryd.ty_size18 Tryd.ty_bytes18)) (And.intro (And.intro Tryd.ty_agg18 Tryd.ty_zero18) (And.intro Tryd.ty_sl18 Tryd.ty_b18))) (And.intro (And.intro (And.intro Tryd.ty_fa18_0 Tryd.ty_ff18_0) (And.intro Tryd.ty_bu18 Tryd.ty_size19)) (And.intro (And.intro Tryd.ty_bytes19 Tryd.ty_agg19) (And.intro Tryd.ty_zero19 (And.intro Tryd.ty_sl19 Tryd.ty_b19))))) (And.intro (And.intro (And.intro (And.intro Tryd.ty_fa19_0 Tryd.ty_ff19_0) (And.intro Tryd.ty_bu19 Tryd.ty_size21)) (And.intro (And.intro Tryd.ty_bytes21 Tryd.ty_agg21) (And.intro Tryd.ty_zero21 Tryd.ty_sl21))) (And.intro (And.intro (And.intro Tryd.ty_b21 Tryd.ty_u21) (And.intro Tryd.ty_size22 Tryd.ty_bytes22)) (And.intro (And.intro Tryd.ty_agg22 Tryd.ty_zero22) (And.intro Tryd.ty_elem22 (And.intro Tryd.ty_sl22 Tryd.ty_ni22)))))) (And.intro (And.intro (And.intro (And.intro (And.intro Tryd.ty_b22 Tryd.ty_u22) (And.intro Tryd.ty_size23 Tryd.ty_bytes23)) (And.intro (And.intro Tryd.ty_agg23 Tryd.ty_zero23) (And.intro Tryd.ty_elem23 Tryd.ty_sl23))) (And.intro (And.intro (And.intro Tryd.ty_ni23 Tryd.ty_b23) (And.intro Tryd.ty_u23 Tryd.ty_size24)) (And.intro (And.intro Tryd.ty_bytes24 Tryd.ty_agg24) (And.intro Tryd.ty_zero24 (And.intro Tryd.ty_sl24 Tryd.ty_b24))))) (And.intro (And.intro (And.intro (And.intro Tryd.ty_fa24_0 Tryd.ty_ff24_0) (And.intro Tryd.ty_fa24_1 Tryd.ty_ff24_1)) (And.intro (And.intro Tryd.ty_fa24_2 Tryd.ty_ff24_2) (And.intro Tryd.ty_fa24_3 Tryd.ty_ff24_3))) (And.intro (And.intro (And.intro Tryd.ty_bu24 Tryd.ty_size25) (And.intro Tryd.ty_bytes25 Tryd.ty_agg25)) (And.intro (And.intro Tryd.ty_zero25 Tryd.ty_sl25) (And.intro Tryd.ty_b25 (And.intro Tryd.ty_fa25_0 Tryd.ty_ff25_0))))))) (And.intro (And.intro (And.intro (And.intro (And.intro (And.intro Tryd.ty_fa25_1 Tryd.ty_ff25_1) (And.intro Tryd.ty_fa25_2 Tryd.ty_ff25_2)) (And.intro (And.intro Tryd.ty_fa25_3 Tryd.ty_ff25_3) (And.intro Tryd.ty_bu25 Tryd.ty_size26))) (And.intro (And.intro (And.intro Tryd.ty_agg26 Tryd.ty_zero26) (And.intro Tryd.ty_size27 Tryd.ty_bytes27)) (And.intro (And.intro Tryd.ty_agg27 Tryd.ty_zero27) (And.intro Tryd.ty_elem27 (And.intro Tryd.ty_sl27 Tryd.ty_ni27))))) (And.intro (And.intro (And.intro (And.intro Tryd.ty_b27 Tryd.ty_u27) (And.intro Tryd.ty_size28 Tryd.ty_agg28)) (And.intro (And.intro Tryd.ty_zero28 Tryd.ty_size30) (And.intro Tryd.ty_agg30 Tryd.ty_zero30))) (And.intro (And.intro (And.intro Tryd.ty_size31 Tryd.ty_agg31) (And.intro Tryd.ty_zero31 Tryd.ty_size32)) (And.intro (And.intro Tryd.ty_agg32 Tryd.ty_zero32) (And.intro Tryd.ty_size33 (And.intro Tryd.ty_agg33 Tryd.ty_zero33)))))) (And.intro (And.intro (And.intro (And.intro (And.intro Tryd.ty_size34 Tryd.ty_agg34) (And.intro Tryd.ty_zero34 Tryd.ty_size35)) (And.intro (And.intro Tryd.ty_agg35 Tryd.ty_zero35) (And.intro Tryd.ty_size36 Tryd.ty_agg36))) (And.intro (And.intro (And.intro Tryd.ty_zero36 Tryd.ty_size37) (And.intro Tryd.ty_agg37 Tryd.ty_zero37)) (And.intro (And.intro Tryd.ty_size38 Tryd.ty_bytes38) (And.intro Tryd.ty_agg38 (And.intro Tryd.ty_zero38 Tryd.ty_sl38))))) (And.intro (And.intro (And.intro (And.intro Tryd.ty_b38 Tryd.ty_u38) (And.intro Tryd.ty_size40 Tryd.ty_agg40)) (And.intro (And.intro Tryd.ty_zero40 Tryd.ty_size41) (And.intro Tryd.ty_bytes41 (And.intro Tryd.ty_agg41 Tryd.ty_zero41)))) (And.intro (And.intro (And.intro Tryd.ty_elem41 Tryd.ty_sl41) (And.intro Tryd.ty_ni41 Tryd.ty_b41)) (And.intro (And.intro Tryd.ty_u41 Tryd.ty_size42) (And.intro Tryd.ty_bytes42 (And.intro Tryd.ty_agg42 Tryd.ty_zero42))))))))) (And.intro (And.intro (And.intro (And.intro (And.intro (And.intro (And.intro (And.intro Tryd.ty_sl42 Tryd.ty_b42) (And.intro Tryd.ty_fa42_0 Tryd.ty_ff42_0)) (And.intro (And.intro Tryd.ty_fa42_1 Tryd.ty_ff42_1) (And.intro Tryd.ty_bu42 Tryd.ty_size43))) (And.intro (And.intro (And.intro Tryd.ty_bytes43 Tryd.ty_agg43) (And.intro Tryd.ty_zero43 Tryd.ty_sl43)) (And.intro (And.intro Tryd.ty_b43 Tryd.ty_fa43_0) (And.intro Tryd.ty_ff43_0 (And.intro Tryd.ty_fa43_1 Tryd.ty_ff43_1))))) (And.intro (And.intro (And.intro (And.intro Tryd.ty_bu43 Tryd.ty_size45) (And.intro Tryd.ty_agg45 Tryd.ty_zero45)) (And.intro (And.intro Tryd.ty_size46 Tryd.ty_agg46) (And.intro Tryd.ty_zero46 Tryd.ty_size47))) (And.intro (And.intro (And.intro Tryd.ty_agg47 Tryd.ty_zero47) (And.intro Tryd.ty_size48 Tryd.ty_bytes48)) (And.intro (And.intro Tryd.ty_agg48 Tryd.ty_zero48) (And.intro Tryd.ty_elem48 (And.intro Tryd.ty_sl48 Tryd.ty_ni48)))))) (And.intro (And.intro (And.intro (And.intro (And.intro Tryd.ty_b48 Tryd.ty_u48) (And.intro Tryd.ty_size49 Tryd.ty_bytes49)) (And.intro (And.intro Tryd.ty_agg49 Tryd.ty_zero49) (And.intro Tryd.ty_sl49 Tryd.ty_b49))) (And.intro (And.intro (And.intro Tryd.ty_fa49_0 Tryd.ty_ff49_0) (And.intro Tryd.ty_fa49_1 Tryd.ty_ff49_1)) (And.intro (And.intro Tryd.ty_fa49_2 Tryd.ty_ff49_2) (And.intro Tryd.ty_fa49_3 (And.intro Tryd.ty_ff49_3 Tryd.ty_bu49))))) (And.intro (And.intro (And.intro (And.intro Tryd.ty_size50 Tryd.ty_bytes50) (And.intro Tryd.ty_agg50 Tryd.ty_zero50)) (And.intro (And.intro Tryd.ty_sl50 Tryd.ty_b50) (And.intro Tryd.ty_fa50_0 Tryd.ty_ff50_0))) (And.intro (And.intro (And.intro Tryd.ty_fa50_1 Tryd.ty_ff50_1) (And.intro Tryd.ty_fa50_2 Tryd.ty_ff50_2)) (And.intro (And.intro Tryd.ty_fa50_3 Tryd.ty_ff50_3) (And.intro Tryd.ty_bu50 (And.intro Tryd.ty_size51 Tryd.ty_agg51))))))) (And.intro (And.intro (And.intro (And.intro (And.intro (And.intro Tryd.ty_zero51 Tryd.ty_size52) (And.intro Tryd.ty_bytes52 Tryd.ty_agg52)) (And.intro (And.intro Tryd.ty_zero52 Tryd.ty_sl52) (And.intro Tryd.ty_b52 Tryd.ty_fa52_0))) (And.intro (And.intro (And.intro Tryd.ty_ff52_0 Tryd.ty_fa52_1) (And.intro Tryd.ty_ff52_1 Tryd.ty_fa52_2)) (And.intro (And.intro Tryd.ty_ff52_2 Tryd.ty_bu52) (And.intro Tryd.ty_size53 (And.intro Tryd.ty_bytes53 Tryd.ty_agg53))))) (And.intro (And.intro (And.intro (And.intro Tryd.ty_zero53 Tryd.ty_sl53) (And.intro Tryd.ty_b53 Tryd.ty_fa53_0)) (And.intro (And.intro Tryd.ty_ff53_0 Tryd.ty_fa53_1) (And.intro Tryd.ty_ff53_1 Tryd.ty_fa53_2))) (And.intro (And.intro (And.intro Tryd.ty_ff53_2 Tryd.ty_bu53) (And.intro Tryd.ty_size54 Tryd.ty_agg54)) (And.intro (And.intro Tryd.ty_zero54 Tryd.ty_size55) (And.intro Tryd.ty_agg55 (And.intro Tryd.ty_zero55 Tryd.ty_size56)))))) (And.intro (And.intro (And.intro (And.intro (And.intro Tryd.ty_agg56 Tryd.ty_zero56) (And.intro Tryd.ty_size58 Tryd.ty_agg58)) (And.intro (And.intro Tryd.ty_zero58 Tryd.ty_size59) (And.intro Tryd.ty_agg59 Tryd.ty_zero59))) (And.intro (And.intro (And.intro Tryd.ty_size60 Tryd.ty_agg60) (And.intro Tryd.ty_zero60 Tryd.ty_size61)) (And.intro (And.intro Tryd.ty_agg61 Tryd.ty_zero61) (And.intro Tryd.ty_size62 (And.intro Tryd.ty_agg62 Tryd.ty_zero62))))) (And.intro (And.intro (And.intro (And.intro Tryd.ty_size63 Tryd.ty_agg63) (And.intro Tryd.ty_zero63 Tryd.ty_size64)) (And.intro (And.intro Tryd.ty_bytes64 Tryd.ty_agg64) (And.intro Tryd.ty_zero64 Tryd.ty_sl64))) (And.intro (And.intro (And.intro Tryd.ty_b64 Tryd.ty_size65) (And.intro Tryd.ty_bytes65 Tryd.ty_agg65)) (And.intro (And.intro Tryd.ty_zero65 Tryd.ty_sl65) (And.intro Tryd.ty_b65 (And.intro Tryd.ty_fa65_0 Tryd.ty_ff65_0)))))))) (And.intro (And.intro (And.intro (And.intro (And.intro (And.intro (And.intro Tryd.ty_fa65_1 Tryd.ty_ff65_1) (And.intro Tryd.ty_fa65_2 Tryd.ty_ff65_2)) (And.intro (And.intro Tryd.ty_bu65 Tryd.ty_size66) (And.intro Tryd.ty_bytes66 Tryd.ty_agg66))) (And.intro (And.intro (And.intro Tryd.ty_zero66 Tryd.ty_sl66) (And.intro Tryd.ty_b66 Tryd.ty_fa66_0)) (And.intro (And.intro Tryd.ty_ff66_0 Tryd.ty_fa66_1) (And.intro Tryd.ty_ff66_1 (And.intro Tryd.ty_fa66_2 Tryd.ty_ff66_2))))) (And.intro (And.intro (And.intro (And.intro Tryd.ty_bu66 Tryd.ty_size67) (And.intro Tryd.ty_agg67 Tryd.ty_zero67)) (And.intro (And.intro Tryd.ty_size68 Tryd.ty_bytes68) (And.intro Tryd.ty_agg68 Tryd.ty_zero68))) (And.intro (And.intro (And.intro Tryd.ty_sl68 Tryd.ty_b68) (And.intro Tryd.ty_size69 Tryd.ty_bytes69)) (And.intro (And.intro Tryd.ty_agg69 Tryd.ty_zero69) (And.intro Tryd.ty_sl69 (And.intro Tryd.ty_b69 Tryd.ty_fa69_0)))))) (And.intro (And.intro (And.intro (And.intro (And.intro Tryd.ty_ff69_0 Tryd.ty_fa69_1) (And.intro Tryd.ty_ff69_1 Tryd.ty_fa69_2)) (And.intro (And.intro Tryd.ty_ff69_2 Tryd.ty_bu69) (And.intro Tryd.ty_size70 Tryd.ty_bytes70))) (And.intro (And.intro (And.intro Tryd.ty_agg70 Tryd.ty_zero70) (And.intro Tryd.ty_sl70 Tryd.ty_b70)) (And.intro (And.intro Tryd.ty_fa70_0 Tryd.ty_ff70_0) (And.intro Tryd.ty_fa70_1 (And.intro Tryd.ty_ff70_1 Tryd.ty_fa70_2))))) (And.intro (And.intro (And.intro (And.intro Tryd.ty_ff70_2 Tryd.ty_bu70) (And.intro Tryd.ty_size72 Tryd.ty_agg72)) (And.intro (And.intro Tryd.ty_zero72 Tryd.ty_size73) (And.intro Tryd.ty_bytes73 Tryd.ty_agg73))) (And.intro (And.intro (And.intro Tryd.ty_zero73 Tryd.ty_elem73) (And.intro Tryd.ty_sl73 Tryd.ty_ni73)) (And.intro (And.intro Tryd.ty_b73 Tryd.ty_u73) (And.intro Tryd.ty_size74 (And.intro Tryd.ty_bytes74 Tryd.ty_agg74))))))) (And.intro (And.intro (And.intro (And.intro (And.intro (And.intro Tryd.ty_zero74 Tryd.ty_sl74) (And.intro Tryd.ty_b74 Tryd.ty_fa74_0)) (And.intro (And.intro Tryd.ty_ff74_0 Tryd.ty_fa74_1) (And.intro Tryd.ty_ff74_1 Tryd.ty_fa74_2))) (And.intro (And.intro (And.intro Tryd.ty_ff74_2 Tryd.ty_fa74_3) (And.intro Tryd.ty_ff74_3 Tryd.ty_fa74_4)) (And.intro (And.intro Tryd.ty_ff74_4 Tryd.ty_fa74_5) (And.intro Tryd.ty_ff74_5 (And.intro Tryd.ty_bu74 Tryd.ty_size75))))) (And.intro (And.intro (And.intro (And.intro Tryd.ty_bytes75 Tryd.ty_agg75) (And.intro Tryd.ty_zero75 Tryd.ty_sl75)) (And.intro (And.intro Tryd.ty_b75 Tryd.ty_fa75_0) (And.intro Tryd.ty_ff75_0 Tryd.ty_fa75_1))) (And.intro (And.intro (And.intro Tryd.ty_ff75_1 Tryd.ty_fa75_2) (And.intro Tryd.ty_ff75_2 Tryd.ty_fa75_3)) (And.intro (And.intro Tryd.ty_ff75_3 Tryd.ty_fa75_4) (And.intro Tryd.ty_ff75_4 (And.intro Tryd.ty_fa75_5 Tryd.ty_ff75_5)))))) (And.intro (And.intro (And.intro (And.intro (And.intro Tryd.ty_bu75 Tryd.ty_size77) (And.intro Tryd.ty_agg77 Tryd.ty_zero77)) (And.intro (And.intro Tryd.ty_size78 Tryd.ty_agg78) (And.intro Tryd.ty_zero78 Tryd.ty_size79))) (And.intro (And.intro (And.intro Tryd.ty_agg79 Tryd.ty_zero79) (And.intro Tryd.ty_size80 Tryd.ty_bytes80)) (And.intro (And.intro Tryd.ty_agg80 Tryd.ty_zero80) (And.intro Tryd.ty_elem80 (And.intro Tryd.ty_sl80 Tryd.ty_ni80))))) (And.intro (And.intro (And.intro (And.intro Tryd.ty_b80 Tryd.ty_u80) (And.intro Tryd.ty_size81 Tryd.ty_bytes81)) (And.intro (And.intro Tryd.ty_agg81 Tryd.ty_zero81) (And.intro Tryd.ty_sl81 (And.intro Tryd.ty_b81 Tryd.ty_fa81_0)))) (And.intro (And.intro (And.intro Tryd.ty_ff81_0 Tryd.ty_fa81_1) (And.intro Tryd.ty_ff81_1 Tryd.ty_fa81_2)) (And.intro (And.intro Tryd.ty_ff81_2 Tryd.ty_fa81_3) (And.intro Tryd.ty_ff81_3 (And.intro Tryd.ty_fa81_4 Tryd.ty_ff81_4)))))))))) (And.intro (And.intro (And.intro (And.intro (And.intro (And.intro (And.intro (And.intro (And.intro Tryd.ty_fa81_5 Tryd.ty_ff81_5) (And.intro Tryd.ty_bu81 Tryd.ty_size82)) (And.intro (And.intro Tryd.ty_bytes82 Tryd.ty_agg82) (And.intro Tryd.ty_zero82 Tryd.ty_sl82))) (And.intro (And.intro (And.intro Tryd.ty_b82 Tryd.ty_fa82_0) (And.intro Tryd.ty_ff82_0 Tryd.ty_fa82_1)) (And.intro (And.intro Tryd.ty_ff82_1 Tryd.ty_fa82_2) (And.intro Tryd.ty_ff82_2 (And.intro Tryd.ty_fa82_3 Tryd.ty_ff82_3))))) (And.intro (And.intro (And.intro (And.intro Tryd.ty_fa82_4 Tryd.ty_ff82_4) (And.intro Tryd.ty_fa82_5 Tryd.ty_ff82_5)) (And.intro (And.intro Tryd.ty_bu82 Tryd.ty_size83) (And.intro Tryd.ty_agg83 Tryd.ty_zero83))) (And.intro (And.intro (And.intro Tryd.ty_size84 Tryd.ty_agg84) (And.intro Tryd.ty_zero84 Tryd.ty_size86)) (And.intro (And.intro Tryd.ty_agg86 Tryd.ty_zero86) (And.intro Tryd.ty_size87 (And.intro Tryd.ty_agg87 Tryd.ty_zero87)))))) (And.intro (And.intro (And.intro (And.intro (And.intro Tryd.ty_size88 Tryd.ty_agg88) (And.intro Tryd.ty_zero88 Tryd.ty_size89)) (And.intro (And.intro Tryd.ty_agg89 Tryd.ty_zero89) (And.intro Tryd.ty_size90 Tryd.ty_bytes90))) (And.intro (And.intro (And.intro Tryd.ty_agg90 Tryd.ty_zero90) (And.intro Tryd.ty_sl90 Tryd.ty_b90)) (And.intro (And.intro Tryd.ty_fa90_0 Tryd.ty_ff90_0) (And.intro Tryd.ty_fa90_1 (And.intro Tryd.ty_ff90_1 Tryd.ty_bu90))))) (And.intro (And.intro (And.intro (And.intro Tryd.ty_size91 Tryd.ty_bytes91) (And.intro Tryd.ty_agg91 Tryd.ty_zero91)) (And.intro (And.intro Tryd.ty_sl91 Tryd.ty_b91) (And.intro Tryd.ty_fa91_0 Tryd.ty_ff91_0))) (And.intro (And.intro (And.intro Tryd.ty_fa91_1 Tryd.ty_ff91_1) (And.intro Tryd.ty_bu91 Tryd.ty_size92)) (And.intro (And.intro Tryd.ty_agg92 Tryd.ty_zero92) (And.intro Tryd.ty_size93 (And.intro Tryd.ty_agg93 Tryd.ty_zero93))))))) (And.intro (And.intro (And.intro (And.intro (And.intro (And.intro Tryd.ty_size94 Tryd.ty_agg94) (And.intro Tryd.ty_zero94 Tryd.ty_size95)) (And.intro (And.intro Tryd.ty_agg95 Tryd.ty_zero95) (And.intro Tryd.ty_size96 Tryd.ty_agg96))) (And.intro (And.intro (And.intro Tryd.ty_zero96 Tryd.ty_size97) (And.intro Tryd.ty_agg97 Tryd.ty_zero97)) (And.intro (And.intro Tryd.ty_size98 Tryd.ty_agg98) (And.intro Tryd.ty_zero98 (And.intro Tryd.ty_size99 Tryd.ty_agg99))))) (And.intro (And.intro (And.intro (And.intro Tryd.ty_zero99 Tryd.ty_size100) (And.intro Tryd.ty_agg100 Tryd.ty_zero100)) (And.intro (And.intro Tryd.ty_size101 Tryd.ty_agg101) (And.intro Tryd.ty_zero101 Tryd.ty_size102))) (And.intro (And.intro (And.intro Tryd.ty_bytes102 Tryd.ty_agg102) (And.intro Tryd.ty_zero102 Tryd.ty_sl102)) (And.intro (And.intro Tryd.ty_b102 Tryd.ty_fa102_0) (And.intro Tryd.ty_ff102_0 (And.intro Tryd.ty_fa102_1 Tryd.ty_ff102_1)))))) (And.intro (And.intro (And.intro (And.intro (And.intro Tryd.ty_fa102_2 Tryd.ty_ff102_2) (And.intro Tryd.ty_bu102 Tryd.ty_size103)) (And.intro (And.intro Tryd.ty_bytes103 Tryd.ty_agg103) (And.intro Tryd.ty_zero103 Tryd.ty_sl103))) (And.intro (And.intro (And.intro Tryd.ty_b103 Tryd.ty_fa103_0) (And.intro Tryd.ty_ff103_0 Tryd.ty_fa103_1)) (And.intro (And.intro Tryd.ty_ff103_1 Tryd.ty_fa103_2) (And.intro Tryd.ty_ff103_2 (And.intro Tryd.ty_bu103 Tryd.ty_size104))))) (And.intro (And.intro (And.intro (And.intro Tryd.ty_bytes104 Tryd.ty_agg104) (And.intro Tryd.ty_zero104 Tryd.ty_sl104)) (And.intro (And.intro Tryd.ty_b104 Tryd.ty_u104) (And.intro Tryd.ty_bu104 Tryd.ty_size105))) (And.intro (And.intro (And.intro Tryd.ty_bytes105 Tryd.ty_agg105) (And.intro Tryd.ty_zero105 Tryd.ty_sl105)) (And.intro (And.intro Tryd.ty_b105 Tryd.ty_size106) (And.intro Tryd.ty_bytes106 (And.intro Tryd.ty_agg106 Tryd.ty_zero106)))))))) (And.intro (And.intro (And.intro (And.intro (And.intro (And.intro (And.intro Tryd.ty_sl106 Tryd.ty_b106) (And.intro Tryd.ty_fa106_0 Tryd.ty_ff106_0)) (And.intro (And.intro Tryd.ty_fa106_1 Tryd.ty_ff106_1) (And.intro Tryd.ty_fa106_2 Tryd.ty_ff106_2))) (And.intro (And.intro (And.intro Tryd.ty_fa106_3 Tryd.ty_ff106_3) (And.intro Tryd.ty_fa106_4 Tryd.ty_ff106_4)) (And.intro (And.intro Tryd.ty_fa106_5 Tryd.ty_ff106_5) (And.intro Tryd.ty_bu106 (And.intro Tryd.ty_size107 Tryd.ty_bytes107))))) (And.intro (And.intro (And.intro (And.intro Tryd.ty_agg107 Tryd.ty_zero107) (And.intro Tryd.ty_sl107 Tryd.ty_b107)) (And.intro (And.intro Tryd.ty_fa107_0 Tryd.ty_ff107_0) (And.intro Tryd.ty_fa107_1 Tryd.ty_ff107_1))) (And.intro (And.intro (And.intro Tryd.ty_fa107_2 Tryd.ty_ff107_2) (And.intro Tryd.ty_fa107_3 Tryd.ty_ff107_3)) (And.intro (And.intro Tryd.ty_fa107_4 Tryd.ty_ff107_4) (And.intro Tryd.ty_fa107_5 (And.intro Tryd.ty_ff107_5 Tryd.ty_bu107)))))) (And.intro (And.intro (And.intro (And.intro (And.intro Tryd.ty_size108 Tryd.ty_agg108) (And.intro Tryd.ty_zero108 Tryd.ty_size109)) (And.intro (And.intro Tryd.ty_agg109 Tryd.ty_zero109) (And.intro Tryd.ty_size110 Tryd.ty_agg110))) (And.intro (And.intro (And.intro Tryd.ty_zero110 Tryd.ty_size111) (And.intro Tryd.ty_agg111 Tryd.ty_zero111)) (And.intro (And.intro Tryd.ty_size113 Tryd.ty_agg113) (And.intro Tryd.ty_zero113 (And.intro Tryd.ty_size114 Tryd.ty_agg114))))) (And.intro (And.intro (And.intro (And.intro Tryd.ty_zero114 Tryd.ty_size115) (And.intro Tryd.ty_agg115 Tryd.ty_zero115)) (And.intro (And.intro Tryd.ty_size116 Tryd.ty_bytes116) (And.intro Tryd.ty_agg116 Tryd.ty_zero116))) (And.intro (And.intro (And.intro Tryd.ty_sl116 Tryd.ty_b116) (And.intro Tryd.ty_u116 Tryd.ty_size117)) (And.intro (And.intro Tryd.ty_agg117 Tryd.ty_zero117) (And.intro Tryd.ty_size118 (And.intro Tryd.ty_agg118 Tryd.ty_zero118))))))) (And.intro (And.intro (And.intro (And.intro (And.intro (And.intro Tryd.ty_size119 Tryd.ty_bytes119) (And.intro Tryd.ty_agg119 Tryd.ty_zero119)) (And.intro (And.intro Tryd.ty_sl119 Tryd.ty_b119) (And.intro Tryd.ty_size120 Tryd.ty_bytes120))) (And.intro (And.intro (And.intro Tryd.ty_agg120 Tryd.ty_zero120) (And.intro Tryd.ty_sl120 Tryd.ty_b120)) (And.intro (And.intro Tryd.ty_fa120_0 Tryd.ty_ff120_0) (And.intro Tryd.ty_fa120_1 (And.intro Tryd.ty_ff120_1 Tryd.ty_fa120_2))))) (And.intro (And.intro (And.intro (And.intro Tryd.ty_ff120_2 Tryd.ty_bu120) (And.intro Tryd.ty_size121 Tryd.ty_bytes121)) (And.intro (And.intro Tryd.ty_agg121 Tryd.ty_zero121) (And.intro Tryd.ty_sl121 Tryd.ty_b121))) (And.intro (And.intro (And.intro Tryd.ty_fa121_0 Tryd.ty_ff121_0) (And.intro Tryd.ty_fa121_1 Tryd.ty_ff121_1)) (And.intro (And.intro Tryd.ty_fa121_2 Tryd.ty_ff121_2) (And.intro Tryd.ty_bu121 (And.intro Tryd.ty_size122 Tryd.ty_agg122)))))) (And.intro (And.intro (And.intro (And.intro (And.intro Tryd.ty_zero122 Tryd.ty_size123) (And.intro Tryd.ty_agg123 Tryd.ty_zero123)) (And.intro (And.intro Tryd.ty_size124 Tryd.ty_agg124) (And.intro Tryd.ty_zero124 Tryd.ty_size125))) (And.intro (And.intro (And.intro Tryd.ty_agg125 Tryd.ty_zero125) (And.intro Tryd.ty_size126 Tryd.ty_agg126)) (And.intro (And.intro Tryd.ty_zero126 Tryd.ty_size127) (And.intro Tryd.ty_agg127 (And.intro Tryd.ty_zero127 Tryd.ty_size128))))) (And.intro (And.intro (And.intro (And.intro Tryd.ty_agg128 Tryd.ty_zero128) (And.intro Tryd.ty_size129 Tryd.ty_agg129)) (And.intro (And.intro Tryd.ty_zero129 Tryd.ty_size130) (And.intro Tryd.ty_agg130 (And.intro Tryd.ty_zero130 Tryd.ty_size131)))) (And.intro (And.intro (And.intro Tryd.ty_agg131 Tryd.ty_zero131) (And.intro Tryd.ty_size132 Tryd.ty_bytes132)) (And.intro (And.intro Tryd.ty_agg132 Tryd.ty_zero132) (And.intro Tryd.ty_elem132 (And.intro Tryd.ty_sl132 Tryd.ty_ni132))))))))) (And.intro (And.intro (And.intro (And.intro (And.intro (And.intro (And.intro (And.intro Tryd.ty_b132 Tryd.ty_u132) (And.intro Tryd.ty_size133 Tryd.ty_bytes133)) (And.intro (And.intro Tryd.ty_agg133 Tryd.ty_zero133) (And.intro Tryd.ty_sl133 Tryd.ty_b133))) (And.intro (And.intro (And.intro Tryd.ty_fa133_0 Tryd.ty_ff133_0) (And.intro Tryd.ty_fa133_1 Tryd.ty_ff133_1)) (And.intro (And.intro Tryd.ty_fa133_2 Tryd.ty_ff133_2) (And.intro Tryd.ty_fa133_3 (And.intro Tryd.ty_ff133_3 Tryd.ty_fa133_4))))) (And.intro (And.intro (And.intro (And.intro Tryd.ty_ff133_4 Tryd.ty_fa133_5) (And.intro Tryd.ty_ff133_5 Tryd.ty_fa133_6)) (And.intro (And.intro Tryd.ty_ff133_6 Tryd.ty_fa133_7) (And.intro Tryd.ty_ff133_7 Tryd.ty_bu133))) (And.intro (And.intro (And.intro Tryd.ty_size134 Tryd.ty_bytes134) (And.intro Tryd.ty_agg134 Tryd.ty_zero134)) (And.intro (And.intro Tryd.ty_sl134 Tryd.ty_b134) (And.intro Tryd.ty_fa134_0 (And.intro Tryd.ty_ff134_0 Tryd.ty_fa134_1)))))) (And.intro (And.intro (And.intro (And.intro (And.intro Tryd.ty_ff134_1 Tryd.ty_fa134_2) (And.intro Tryd.ty_ff134_2 Tryd.ty_fa134_3)) (And.intro (And.intro Tryd.ty_ff134_3 Tryd.ty_fa134_4) (And.intro Tryd.ty_ff134_4 Tryd.ty_fa134_5))) (And.intro (And.intro (And.intro Tryd.ty_ff134_5 Tryd.ty_fa134_6) (And.intro Tryd.ty_ff134_6 Tryd.ty_fa134_7)) (And.intro (And.intro Tryd.ty_ff134_7 Tryd.ty_bu134) (And.intro Tryd.ty_size135 (And.intro Tryd.ty_bytes135 Tryd.ty_agg135))))) (And.intro (And.intro (And.intro (And.intro Tryd.ty_zero135 Tryd.ty_sl135) (And.intro Tryd.ty_b135 Tryd.ty_u135)) (And.intro (And.intro Tryd.ty_bu135 Tryd.ty_size136) (And.intro Tryd.ty_agg136 Tryd.ty_zero136))) (And.intro (And.intro (And.intro Tryd.ty_size137 Tryd.ty_agg137) (And.intro Tryd.ty_zero137 Tryd.ty_size138)) (And.intro (And.intro Tryd.ty_agg138 Tryd.ty_zero138) (And.intro Tryd.ty_size139 (And.intro Tryd.ty_agg139 Tryd.ty_zero139))))))) (And.intro (And.intro (And.intro (And.intro (And.intro (And.intro Tryd.ty_size141 Tryd.ty_agg141) (And.intro Tryd.ty_zero141 Tryd.ty_size142)) (And.intro (And.intro Tryd.ty_agg142 Tryd.ty_zero142) (And.intro Tryd.ty_size143 Tryd.ty_agg143))) (And.intro (And.intro (And.intro Tryd.ty_zero143 Tryd.ty_size144) (And.intro Tryd.ty_agg144 Tryd.ty_zero144)) (And.intro (And.intro Tryd.ty_size145 Tryd.ty_agg145) (And.intro Tryd.ty_zero145 (And.intro Tryd.ty_size147 Tryd.ty_bytes147))))) (And.intro (And.intro (And.intro (And.intro Tryd.ty_agg147 Tryd.ty_zero147) (And.intro Tryd.ty_sl147 Tryd.ty_b147)) (And.intro (And.intro Tryd.ty_map147 Tryd.ty_u147) (And.intro Tryd.ty_size148 Tryd.ty_agg148))) (And.intro (And.intro (And.intro Tryd.ty_zero148 Tryd.ty_size149) (And.intro Tryd.ty_agg149 Tryd.ty_zero149)) (And.intro (And.intro Tryd.ty_size150 Tryd.ty_bytes150) (And.intro Tryd.ty_agg150 (And.intro Tryd.ty_zero150 Tryd.ty_sl150)))))) (And.intro (And.intro (And.intro (And.intro (And.intro Tryd.ty_b150 Tryd.ty_fa150_0) (And.intro Tryd.ty_ff150_0 Tryd.ty_fa150_1)) (And.intro (And.intro Tryd.ty_ff150_1 Tryd.ty_fa150_2) (And.intro Tryd.ty_ff150_2 Tryd.ty_fa150_3))) (And.intro (And.intro (And.intro Tryd.ty_ff150_3 Tryd.ty_bu150) (And.intro Tryd.ty_size151 Tryd.ty_bytes151)) (And.intro (And.intro Tryd.ty_agg151 Tryd.ty_zero151) (And.intro Tryd.ty_sl151 (And.intro Tryd.ty_b151 Tryd.ty_fa151_0))))) (And.intro (And.intro (And.intro (And.intro Tryd.ty_ff151_0 Tryd.ty_fa151_1) (And.intro Tryd.ty_ff151_1 Tryd.ty_fa151_2)) (And.intro (And.intro Tryd.ty_ff151_2 Tryd.ty_fa151_3) (And.intro Tryd.ty_ff151_3 (And.intro Tryd.ty_bu151 Tryd.ty_size152)))) (And.intro (And.intro (And.intro Tryd.ty_bytes152 Tryd.ty_agg152) (And.intro Tryd.ty_zero152 Tryd.ty_sl152)) (And.intro (And.intro Tryd.ty_b152 Tryd.ty_u152) (And.intro Tryd.ty_bu152 (And.intro Tryd.ty_size153 Tryd.ty_bytes153)))))))) (And.intro (And.intro (And.intro (And.intro (And.intro (And.intro (And.intro Tryd.ty_agg153 Tryd.ty_zero153) (And.intro Tryd.ty_sl153 Tryd.ty_b153)) (And.intro (And.intro Tryd.ty_fa153_0 Tryd.ty_ff153_0) (And.intro Tryd.ty_bu153 Tryd.ty_size154))) (And.intro (And.intro (And.intro Tryd.ty_bytes154 Tryd.ty_agg154) (And.intro Tryd.ty_zero154 Tryd.ty_sl154)) (And.intro (And.intro Tryd.ty_b154 Tryd.ty_fa154_0) (And.intro Tryd.ty_ff154_0 (And.intro Tryd.ty_bu154 Tryd.ty_size155))))) (And.intro (And.intro (And.intro (And.intro Tryd.ty_agg155 Tryd.ty_zero155) (And.intro Tryd.ty_size156 Tryd.ty_bytes156)) (And.intro (And.intro Tryd.ty_agg156 Tryd.ty_zero156) (And.intro Tryd.ty_sl156 Tryd.ty_b156))) (And.intro (And.intro (And.intro Tryd.ty_u156 Tryd.ty_size157) (And.intro Tryd.ty_bytes157 Tryd.ty_agg157)) (And.intro (And.intro Tryd.ty_zero157 Tryd.ty_sl157) (And.intro Tryd.ty_b157 (And.intro Tryd.ty_u157 Tryd.ty_size158)))))) (And.intro (And.intro (And.intro (And.intro (And.intro Tryd.ty_bytes158 Tryd.ty_agg158) (And.intro Tryd.ty_zero158 Tryd.ty_sl158)) (And.intro (And.intro Tryd.ty_b158 Tryd.ty_u158) (And.intro Tryd.ty_size159 Tryd.ty_agg159))) (And.intro (And.intro (And.intro Tryd.ty_zero159 Tryd.ty_size160) (And.intro Tryd.ty_bytes160 Tryd.ty_agg160)) (And.intro (And.intro Tryd.ty_zero160 Tryd.ty_sl160) (And.intro Tryd.ty_b160 (And.intro Tryd.ty_size161 Tryd.ty_bytes161))))) (And.intro (And.intro (And.intro (And.intro Tryd.ty_agg161 Tryd.ty_zero161) (And.intro Tryd.ty_sl161 Tryd.ty_b161)) (And.intro (And.intro Tryd.ty_u161 Tryd.ty_size162) (And.intro Tryd.ty_bytes162 Tryd.ty_agg162))) (And.intro (And.intro (And.intro Tryd.ty_zero162 Tryd.ty_sl162) (And.intro Tryd.ty_b162 Tryd.ty_u162)) (And.intro (And.intro Tryd.ty_size163 Tryd.ty_bytes163) (And.intro Tryd.ty_agg163 (And.intro Tryd.ty_zero163 Tryd.ty_sl163))))))) (And.intro (And.intro (And.intro (And.intro (And.intro (And.intro Tryd.ty_b163 Tryd.ty_fa163_0) (And.intro Tryd.ty_ff163_0 Tryd.ty_fa163_1)) (And.intro (And.intro Tryd.ty_ff163_1 Tryd.ty_fa163_2) (And.intro Tryd.ty_ff163_2 Tryd.ty_fa163_3))) (And.intro (And.intro (And.intro Tryd.ty_ff163_3 Tryd.ty_fa163_4) (And.intro Tryd.ty_ff163_4 Tryd.ty_fa163_5)) (And.intro (And.intro Tryd.ty_ff163_5 Tryd.ty_fa163_6) (And.intro Tryd.ty_ff163_6 (And.intro Tryd.ty_fa163_7 Tryd.ty_ff163_7))))) (And.intro (And.intro (And.intro (And.intro Tryd.ty_fa163_8 Tryd.ty_ff163_8) (And.intro Tryd.ty_fa163_9 Tryd.ty_ff163_9)) (And.intro (And.intro Tryd.ty_fa163_10 Tryd.ty_ff163_10) (And.intro Tryd.ty_bu163 Tryd.ty_size164))) (And.intro (And.intro (And.intro Tryd.ty_bytes164 Tryd.ty_agg164) (And.intro Tryd.ty_zero164 Tryd.ty_sl164)) (And.intro (And.intro Tryd.ty_b164 Tryd.ty_fa164_0) (And.intro Tryd.ty_ff164_0 (And.intro Tryd.ty_fa164_1 Tryd.ty_ff164_1)))))) (And.intro (And.intro (And.intro (And.intro (And.intro Tryd.ty_fa164_2 Tryd.ty_ff164_2) (And.intro Tryd.ty_fa164_3 Tryd.ty_ff164_3)) (And.intro (And.intro Tryd.ty_fa164_4 Tryd.ty_ff164_4) (And.intro Tryd.ty_fa164_5 Tryd.ty_ff164_5))) (And.intro (And.intro (And.intro Tryd.ty_fa164_6 Tryd.ty_ff164_6) (And.intro Tryd.ty_fa164_7 Tryd.ty_ff164_7)) (And.intro (And.intro Tryd.ty_fa164_8 Tryd.ty_ff164_8) (And.intro Tryd.ty_fa164_9 (And.intro Tryd.ty_ff164_9 Tryd.ty_fa164_10))))) (And.intro (And.intro (And.intro (And.intro Tryd.ty_ff164_10 Tryd.ty_bu164) (And.intro Tryd.ty_size165 Tryd.ty_bytes165)) (And.intro (And.intro Tryd.ty_agg165 Tryd.ty_zero165) (And.intro Tryd.ty_sl165 (And.intro Tryd.ty_b165 Tryd.ty_size166)))) (And.intro (And.intro (And.intro Tryd.ty_bytes166 Tryd.ty_agg166) (And.intro Tryd.ty_zero166 Tryd.ty_sl166)) (And.intro (And.intro Tryd.ty_b166 Tryd.ty_u166) (And.intro Tryd.ty_size167 (And.intro Tryd.ty_agg167 Tryd.ty_zero167)))))))))))) := (And.intro (And.intro (And.intro (And.intro (And.intro (And.intro (And.intro (And.intro (And.intro (And.intro Tryd.ty_size1 Tryd.ty_agg1) (And.intro Tryd.ty_zero1 Tryd.ty_size2)) (And.intro (And.intro Tryd.ty_bytes2 Tryd.ty_agg2) (And.intro Tryd.ty_zero2 Tryd.ty_sl2))) (And.intro (And.intro (And.intro Tryd.ty_b2 Tryd.ty_u2) (And.intro Tryd.ty_size3 Tryd.ty_bytes3)) (And.intro (And.intro Tryd.ty_agg3 Tryd.ty_zero3) (And.intro Tryd.ty_sl3 (And.intro Tryd.ty_b3 Tryd.ty_u3))))) (And.intro (And.intro (And.intro (And.intro Tryd.ty_size4 Tryd.ty_bytes4) (And.intro Tryd.ty_agg4 Tryd.ty_zero4)) (And.intro (And.intro Tryd.ty_sl4 Tryd.ty_b4) (And.intro Tryd.ty_size5 Tryd.ty_bytes5))) (And.intro (And.intro (And.intro Tryd.ty_agg5 Tryd.ty_zero5) (And.intro Tryd.ty_sl5 Tryd.ty_b5)) (And.intro (And.intro Tryd.ty_u5 Tryd.ty_size6) (And.intro Tryd.ty_bytes6 (And.intro Tryd.ty_agg6 Tryd.ty_zero6)))))) (And.intro (And.intro (And.intro (And.intro (And.intro Tryd.ty_sl6 Tryd.ty_b6) (And.intro Tryd.ty_u6 Tryd.ty_size7)) (And.intro (And.intro Tryd.ty_bytes7 Tryd.ty_agg7) (And.intro Tryd.ty_zero7 Tryd.ty_sl7))) (And.intro (And.intro (And.intro Tryd.ty_b7 Tryd.ty_fa7_0) (And.intro Tryd.ty_ff7_0 Tryd.ty_fa7_1)) (And.intro (And.intro Tryd.ty_ff7_1 Tryd.ty_fa7_2) (And.intro Tryd.ty_ff7_2 (And.intro Tryd.ty_fa7_3 Tryd.ty_ff7_3))))) (And.intro (And.intro (And.intro (And.intro Tryd.ty_bu7 Tryd.ty_size8) (And.intro Tryd.ty_bytes8 Tryd.ty_agg8)) (And.intro (And.intro Tryd.ty_zero8 Tryd.ty_sl8) (And.intro Tryd.ty_b8 Tryd.ty_fa8_0))) (And.intro (And.intro (And.intro Tryd.ty_ff8_0 Tryd.ty_fa8_1) (And.intro Tryd.ty_ff8_1 Tryd.ty_fa8_2)) (And.intro (And.intro Tryd.ty_ff8_2 Tryd.ty_fa8_3) (And.intro Tryd.ty_ff8_3 (And.intro Tryd.ty_bu8 Tryd.ty_size9))))))) (And.intro (And.intro (And.intro (And.intro (And.intro (And.intro Tryd.ty_bytes9 Tryd.ty_agg9) (And.intro Tryd.ty_zero9 Tryd.ty_sl9)) (And.intro (And.intro Tryd.ty_ni9 Tryd.ty_b9) (And.intro Tryd.ty_u9 Tryd.ty_size10))) (And.intro (And.intro (And.intro Tryd.ty_bytes10 Tryd.ty_agg10) (And.intro Tryd.ty_zero10 Tryd.ty_sl10)) (And.intro (And.intro Tryd.ty_ni10 Tryd.ty_b10) (And.intro Tryd.ty_u10 (And.intro Tryd.ty_size11 Tryd.ty_bytes11))))) (And.intro (And.intro (And.intro (And.intro Tryd.ty_agg11 Tryd.ty_zero11) (And.intro Tryd.ty_sl11 Tryd.ty_ni11)) (And.intro (And.intro Tryd.ty_b11 Tryd.ty_u11) (And.intro Tryd.ty_size12 Tryd.ty_bytes12))) (And.intro (And.intro (And.intro Tryd.ty_agg12 Tryd.ty_zero12) (And.intro Tryd.ty_sl12 Tryd.ty_b12)) (And.intro (And.intro Tryd.ty_u12 Tryd.ty_size13) (And.intro Tryd.ty_bytes13 (And.intro Tryd.ty_agg13 Tryd.ty_zero13)))))) (And.intro (And.intro (And.intro (And.intro (And.intro Tryd.ty_sl13 Tryd.ty_b13) (And.intro Tryd.ty_fa13_0 Tryd.ty_ff13_0)) (And.intro (And.intro Tryd.ty_fa13_1 Tryd.ty_ff13_1) (And.intro Tryd.ty_bu13 Tryd.ty_size14))) (And.intro (And.intro (And.intro Tryd.ty_bytes14 Tryd.ty_agg14) (And.intro Tryd.ty_zero14 Tryd.ty_sl14)) (And.intro (And.intro Tryd.ty_b14 Tryd.ty_fa14_0) (And.intro Tryd.ty_ff14_0 (And.intro Tryd.ty_fa14_1 Tryd.ty_ff14_1))))) (And.intro (And.intro (And.intro (And.intro Tryd.ty_bu14 Tryd.ty_size15) (And.intro Tryd.ty_bytes15 Tryd.ty_agg15)) (And.intro (And.intro Tryd.ty_zero15 Tryd.ty_sl15) (And.intro Tryd.ty_b15 Tryd.ty_size16))) (And.intro (And.intro (And.intro Tryd.ty_bytes16 Tryd.ty_agg16) (And.intro Tryd.ty_zero16 Tryd.ty_sl16)) (And.intro (And.intro Tryd.ty_b16 Tryd.ty_size17) (And.intro Tryd.ty_bytes17 (And.intro Tryd.ty_agg17 Tryd.ty_zero17)))))))) (And.intro (And.intro (And.intro (And.intro (And.intro (And.intro (And.intro Tryd.ty_sl17 Tryd.ty_b17) (And.intro Tryd.ty_size18 Tryd.ty_bytes18)) (And.intro (And.intro Tryd.ty_agg18 Tryd.ty_zero18) (And.intro Tryd.ty_sl18 Tryd.ty_b18))) (And.intro (And.intro (And.intro Tryd.ty_fa18_0 Tryd.ty_ff18_0) (And.intro Tryd.ty_bu18 Tryd.ty_size19)) (And.intro (And.intro Tryd.ty_bytes19 Tryd.ty_agg19) (And.intro Tryd.ty_zero19 (And.intro Tryd.ty_sl19 Tryd.ty_b19))))) (And.intro (And.intro (And.intro (And.intro Tryd.ty_fa19_0 Tryd.ty_ff19_0) (And.intro Tryd.ty_bu19 Tryd.ty_size21)) (And.intro (And.intro Tryd.ty_bytes21 Tryd.ty_agg21) (And.intro Tryd.ty_zero21 Tryd.ty_sl21))) (And.intro (And.intro (And.intro Tryd.ty_b21 Tryd.ty_u21) (And.intro Tryd.ty_size22 Tryd.ty_bytes22)) (And.intro (And.intro Tryd.ty_agg22 Tryd.ty_zero22) (And.intro Tryd.ty_elem22 (And.intro Tryd.ty_sl22 Tryd.ty_ni22)))))) (And.intro (And.intro (And.intro (And.intro (And.intro Tryd.ty_b22 Tryd.ty_u22) (And.intro Tryd.ty_size23 Tryd.ty_bytes23)) (And.intro (And.intro Tryd.ty_agg23 Tryd.ty_zero23) (And.intro Tryd.ty_elem23 Tryd.ty_sl23))) (And.intro (And.intro (And.intro Tryd.ty_ni23 Tryd.ty_b23) (And.intro Tryd.ty_u23 Tryd.ty_size24)) (And.intro (And.intro Tryd.ty_bytes24 Tryd.ty_agg24) (And.intro Tryd.ty_zero24 (And.intro Tryd.ty_sl24 Tryd.ty_b24))))) (And.intro (And.intro (And.intro (And.intro Tryd.ty_fa24_0 Tryd.ty_ff24_0) (And.intro Tryd.ty_fa24_1 Tryd.ty_ff24_1)) (And.intro (And.intro Tryd.ty_fa24_2 Tryd.ty_ff24_2) (And.intro Tryd.ty_fa24_3 Tryd.ty_ff24_3))) (And.intro (And.intro (And.intro Tryd.ty_bu24 Tryd.ty_size25) (And.intro Tryd.ty_bytes25 Tryd.ty_agg25)) (And.intro (And.intro Tryd.ty_zero25 Tryd.ty_sl25) (And.intro Tryd.ty_b25 (And.intro Tryd.ty_fa25_0 Tryd.ty_ff25_0))))))) (And.intro (And.intro (And.intro (And.intro (And.intro (And.intro Tryd.ty_fa25_1 Tryd.ty_ff25_1) (And.intro Tryd.ty_fa25_2 Tryd.ty_ff25_2)) (And.intro (And.intro Tryd.ty_fa25_3 Tryd.ty_ff25_3) (And.intro Tryd.ty_bu25 Tryd.ty_size26))) (And.intro (And.intro (And.intro Tryd.ty_agg26 Tryd.ty_zero26) (And.intro Tryd.ty_size27 Tryd.ty_bytes27)) (And.intro (And.intro Tryd.ty_agg27 Tryd.ty_zero27) (And.intro Tryd.ty_elem27 (And.intro Tryd.ty_sl27 Tryd.ty_ni27))))) (And.intro (And.intro (And.intro (And.intro Tryd.ty_b27 Tryd.ty_u27) (And.intro Tryd.ty_size28 Tryd.ty_agg28)) (And.intro (And.intro Tryd.ty_zero28 Tryd.ty_size30) (And.intro Tryd.ty_agg30 Tryd.ty_zero30))) (And.intro (And.intro (And.intro Tryd.ty_size31 Tryd.ty_agg31) (And.intro Tryd.ty_zero31 Tryd.ty_size32)) (And.intro (And.intro Tryd.ty_agg32 Tryd.ty_zero32) (And.intro Tryd.ty_size33 (And.intro Tryd.ty_agg33 Tryd.ty_zero33)))))) (And.intro (And.intro (And.intro (And.intro (And.intro Tryd.ty_size34 Tryd.ty_agg34) (And.intro Tryd.ty_zero34 Tryd.ty_size35)) (And.intro (And.intro Tryd.ty_agg35 Tryd.ty_zero35) (And.intro Tryd.ty_size36 Tryd.ty_agg36))) (And.intro (And.intro (And.intro Tryd.ty_zero36 Tryd.ty_size37) (And.intro Tryd.ty_agg37 Tryd.ty_zero37)) (And.intro (And.intro Tryd.ty_size38 Tryd.ty_bytes38) (And.intro Tryd.ty_agg38 (And.intro Tryd.ty_zero38 Tryd.ty_sl38))))) (And.intro (And.intro (And.intro (And.intro Tryd.ty_b38 Tryd.ty_u38) (And.intro Tryd.ty_size40 Tryd.ty_agg40)) (And.intro (And.intro Tryd.ty_zero40 Tryd.ty_size41) (And.intro Tryd.ty_bytes41 (And.intro Tryd.ty_agg41 Tryd.ty_zero41)))) (And.intro (And.intro (And.intro Tryd.ty_elem41 Tryd.ty_sl41) (And.intro Tryd.ty_ni41 Tryd.ty_b41)) (And.intro (And.intro Tryd.ty_u41 Tryd.ty_size42) (And.intro Tryd.ty_bytes42 (And.intro Tryd.ty_agg42 Tryd.ty_zero42))))))))) (And.intro (And.intro (And.intro (And.intro (And.intro (And.intro (And.intro (And.intro Tryd.ty_sl42 Tryd.ty_b42) (And.intro Tryd.ty_fa42_0 Tryd.ty_ff42_0)) (And.intro (And.intro Tryd.ty_fa42_1 Tryd.ty_ff42_1) (And.intro Tryd.ty_bu42 Tryd.ty_size43))) (And.intro (And.intro (And.intro Tryd.ty_bytes43 Tryd.ty_agg43) (And.intro Tryd.ty_zero43 Tryd.ty_sl43)) (And.intro (And.intro Tryd.ty_b43 Tryd.ty_fa43_0) (And.intro Tryd.ty_ff43_0 (And.intro Tryd.ty_fa43_1 Tryd.ty_ff43_1))))) (And.intro (And.intro (And.intro (And.intro Tryd.ty_bu43 Tryd.ty_size45) (And.intro Tryd.ty_agg45 Tryd.ty_zero45)) (And.intro (And.intro Tryd.ty_size46 Tryd.ty_agg46) (And.intro Tryd.ty_zero46 Tryd.ty_size47))) (And.intro (And.intro (And.intro Tryd.ty_agg47 Tryd.ty_zero47) (And.intro Tryd.ty_size48 Tryd.ty_bytes48)) (And.intro (And.intro Tryd.ty_agg48 Tryd.ty_zero48) (And.intro Tryd.ty_elem48 (And.intro Tryd.ty_sl48 Tryd.ty_ni48)))))) (And.intro (And.intro (And.intro (And.intro (And.intro Tryd.ty_b48 Tryd.ty_u48) (And.intro Tryd.ty_size49 Tryd.ty_bytes49)) (And.intro (And.intro Tryd.ty_agg49 Tryd.ty_zero49) (And.intro Tryd.ty_sl49 Tryd.ty_b49))) (And.intro (And.intro (And.intro Tryd.ty_fa49_0 Tryd.ty_ff49_0) (And.intro Tryd.ty_fa49_1 Tryd.ty_ff49_1)) (And.intro (And.intro Tryd.ty_fa49_2 Tryd.ty_ff49_2) (And.intro Tryd.ty_fa49_3 (And.intro Tryd.ty_ff49_3 Tryd.ty_bu49))))) (And.intro (And.intro (And.intro (And.intro Tryd.ty_size50 Tryd.ty_bytes50) (And.intro Tryd.ty_agg50 Tryd.ty_zero50)) (And.intro (And.intro Tryd.ty_sl50 Tryd.ty_b50) (And.intro Tryd.ty_fa50_0 Tryd.ty_ff50_0))) (And.intro (And.intro (And.intro Tryd.ty_fa50_1 Tryd.ty_ff50_1) (And.intro Tryd.ty_fa50_2 Tryd.ty_ff50_2)) (And.intro (And.intro Tryd.ty_fa50_3 Tryd.ty_ff50_3) (And.intro Tryd.ty_bu50 (And.intro Tryd.ty_size51 Tryd.ty_agg51))))))) (And.intro (And.intro (And.intro (And.intro (And.intro (And.intro Tryd.ty_zero51 Tryd.ty_size52) (And.intro Tryd.ty_bytes52 Tryd.ty_agg52)) (And.intro (And.intro Tryd.ty_zero52 Tryd.ty_sl52) (And.intro Tryd.ty_b52 Tryd.ty_fa52_0))) (And.intro (And.intro (And.intro Tryd.ty_ff52_0 Tryd.ty_fa52_1) (And.intro Tryd.ty_ff52_1 Tryd.ty_fa52_2)) (And.intro (And.intro Tryd.ty_ff52_2 Tryd.ty_bu52) (And.intro Tryd.ty_size53 (And.intro Tryd.ty_bytes53 Tryd.ty_agg53))))) (And.intro (And.intro (And.intro (And.intro Tryd.ty_zero53 Tryd.ty_sl53) (And.intro Tryd.ty_b53 Tryd.ty_fa53_0)) (And.intro (And.intro Tryd.ty_ff53_0 Tryd.ty_fa53_1) (And.intro Tryd.ty_ff53_1 Tryd.ty_fa53_2))) (And.intro (And.intro (And.intro Tryd.ty_ff53_2 Tryd.ty_bu53) (And.intro Tryd.ty_size54 Tryd.ty_agg54)) (And.intro (And.intro Tryd.ty_zero54 Tryd.ty_size55) (And.intro Tryd.ty_agg55 (And.intro Tryd.ty_zero55 Tryd.ty_size56)))))) (And.intro (And.intro (And.intro (And.intro (And.intro Tryd.ty_agg56 Tryd.ty_zero56) (And.intro Tryd.ty_size58 Tryd.ty_agg58)) (And.intro (And.intro Tryd.ty_zero58 Tryd.ty_size59) (And.intro Tryd.ty_agg59 Tryd.ty_zero59))) (And.intro (And.intro (And.intro Tryd.ty_size60 Tryd.ty_agg60) (And.intro Tryd.ty_zero60 Tryd.ty_size61)) (And.intro (And.intro Tryd.ty_agg61 Tryd.ty_zero61) (And.intro Tryd.ty_size62 (And.intro Tryd.ty_agg62 Tryd.ty_zero62))))) (And.intro (And.intro (And.intro (And.intro Tryd.ty_size63 Tryd.ty_agg63) (And.intro Tryd.ty_zero63 Tryd.ty_size64)) (And.intro (And.intro Tryd.ty_bytes64 Tryd.ty_agg64) (And.intro Tryd.ty_zero64 Tryd.ty_sl64))) (And.intro (And.intro (And.intro Tryd.ty_b64 Tryd.ty_size65) (And.intro Tryd.ty_bytes65 Tryd.ty_agg65)) (And.intro (And.intro Tryd.ty_zero65 Tryd.ty_sl65) (And.intro Tryd.ty_b65 (And.intro Tryd.ty_fa65_0 Tryd.ty_ff65_0)))))))) (And.intro (And.intro (And.intro (And.intro (And.intro (And.intro (And.intro Tryd.ty_fa65_1 Tryd.ty_ff65_1) (And.intro Tryd.ty_fa65_2 Tryd.ty_ff65_2)) (And.intro (And.intro Tryd.ty_bu65 Tryd.ty_size66) (And.intro Tryd.ty_bytes66 Tryd.ty_agg66))) (And.intro (And.intro (And.intro Tryd.ty_zero66 Tryd.ty_sl66) (And.intro Tryd.ty_b66 Tryd.ty_fa66_0)) (And.intro (And.intro Tryd.ty_ff66_0 Tryd.ty_fa66_1) (And.intro Tryd.ty_ff66_1 (And.intro Tryd.ty_fa66_2 Tryd.ty_ff66_2))))) (And.intro (And.intro (And.intro (And.intro Tryd.ty_bu66 Tryd.ty_size67) (And.intro Tryd.ty_agg67 Tryd.ty_zero67)) (And.intro (And.intro Tryd.ty_size68 Tryd.ty_bytes68) (And.intro Tryd.ty_agg68 Tryd.ty_zero68))) (And.intro (And.intro (And.intro Tryd.ty_sl68 Tryd.ty_b68) (And.intro Tryd.ty_size69 Tryd.ty_bytes69)) (And.intro (And.intro Tryd.ty_agg69 Tryd.ty_zero69) (And.intro Tryd.ty_sl69 (And.intro Tryd.ty_b69 Tryd.ty_fa69_0)))))) (And.intro (And.intro (And.intro (And.intro (And.intro Tryd.ty_ff69_0 Tryd.ty_fa69_1) (And.intro Tryd.ty_ff69_1 Tryd.ty_fa69_2)) (And.intro (And.intro Tryd.ty_ff69_2 Tryd.ty_bu69) (And.intro Tryd.ty_size70 Tryd.ty_bytes70))) (And.intro (And.intro (And.intro Tryd.ty_agg70 Tryd.ty_zero70) (And.intro Tryd.ty_sl70 Tryd.ty_b70)) (And.intro (And.intro Tryd.ty_fa70_0 Tryd.ty_ff70_0) (And.intro Tryd.ty_fa70_1 (And.intro Tryd.ty_ff70_1 Tryd.ty_fa70_2))))) (And.intro (And.intro (And.intro (And.intro Tryd.ty_ff70_2 Tryd.ty_bu70) (And.intro Tryd.ty_size72 Tryd.ty_agg72)) (And.intro (And.intro Tryd.ty_zero72 Tryd.ty_size73) (And.intro Tryd.ty_bytes73 Tryd.ty_agg73))) (And.intro (And.intro (And.intro Tryd.ty_zero73 Tryd.ty_elem73) (And.intro Tryd.ty_sl73 Tryd.ty_ni73)) (And.intro (And.intro Tryd.ty_b73 Tryd.ty_u73) (And.intro Tryd.ty_size74 (And.intro Tryd.ty_bytes74 Tryd.ty_agg74))))))) (And.intro (And.intro (And.intro (And.intro (And.intro (And.intro Tryd.ty_zero74 Tryd.ty_sl74) (And.intro Tryd.ty_b74 Tryd.ty_fa74_0)) (And.intro (And.intro Tryd.ty_ff74_0 Tryd.ty_fa74_1) (And.intro Tryd.ty_ff74_1 Tryd.ty_fa74_2))) (And.intro (And.intro (And.intro Tryd.ty_ff74_2 Tryd.ty_fa74_3) (And.intro Tryd.ty_ff74_3 Tryd.ty_fa74_4)) (And.intro (And.intro Tryd.ty_ff74_4 Tryd.ty_fa74_5) (And.intro Tryd.ty_ff74_5 (And.intro Tryd.ty_bu74 Tryd.ty_size75))))) (And.intro (And.intro (And.intro (And.intro Tryd.ty_bytes75 Tryd.ty_agg75) (And.intro Tryd.ty_zero75 Tryd.ty_sl75)) (And.intro (And.intro Tryd.ty_b75 Tryd.ty_fa75_0) (And.intro Tryd.ty_ff75_0 Tryd.ty_fa75_1))) (And.intro (And.intro (And.intro Tryd.ty_ff75_1 Tryd.ty_fa75_2) (And.intro Tryd.ty_ff75_2 Tryd.ty_fa75_3)) (And.intro (And.intro Tryd.ty_ff75_3 Tryd.ty_fa75_4) (And.intro Tryd.ty_ff75_4 (And.intro Tryd.ty_fa75_5 Tryd.ty_ff75_5)))))) (And.intro (And.intro (And.intro (And.intro (And.intro Tryd.ty_bu75 Tryd.ty_size77) (And.intro Tryd.ty_agg77 Tryd.ty_zero77)) (And.intro (And.intro Tryd.ty_size78 Tryd.ty_agg78) (And.intro Tryd.ty_zero78 Tryd.ty_size79))) (And.intro (And.intro (And.intro Tryd.ty_agg79 Tryd.ty_zero79) (And.intro Tryd.ty_size80 Tryd.ty_bytes80)) (And.intro (And.intro Tryd.ty_agg80 Tryd.ty_zero80) (And.intro Tryd.ty_elem80 (And.intro Tryd.ty_sl80 Tryd.ty_ni80))))) (And.intro (And.intro (And.intro (And.intro Tryd.ty_b80 Tryd.ty_u80) (And.intro Tryd.ty_size81 Tryd.ty_bytes81)) (And.intro (And.intro Tryd.ty_agg81 Tryd.ty_zero81) (And.intro Tryd.ty_sl81 (And.intro Tryd.ty_b81 Tryd.ty_fa81_0)))) (And.intro (And.intro (And.intro Tryd.ty_ff81_0 Tryd.ty_fa81_1) (And.intro Tryd.ty_ff81_1 Tryd.ty_fa81_2)) (And.intro (And.intro Tryd.ty_ff81_2 Tryd.ty_fa81_3) (And.intro Tryd.ty_ff81_3 (And.intro Tryd.ty_fa81_4 Tryd.ty_ff81_4)))))))))) (And.intro (And.intro (And.intro (And.intro (And.intro (And.intro (And.intro (And.intro (And.intro Tryd.ty_fa81_5 Tryd.ty_ff81_5) (And.intro Tryd.ty_bu81 Tryd.ty_size82)) (And.intro (And.intro Tryd.ty_bytes82 Tryd.ty_agg82) (And.intro Tryd.ty_zero82 Tryd.ty_sl82))) (And.intro (And.intro (And.intro Tryd.ty_b82 Tryd.ty_fa82_0) (And.intro Tryd.ty_ff82_0 Tryd.ty_fa82_1)) (And.intro (And.intro Tryd.ty_ff82_1 Tryd.ty_fa82_2) (And.intro Tryd.ty_ff82_2 (And.intro Tryd.ty_fa82_3 Tryd.ty_ff82_3))))) (And.intro (And.intro (And.intro (And.intro Tryd.ty_fa82_4 Tryd.ty_ff82_4) (And.intro Tryd.ty_fa82_5 Tryd.ty_ff82_5)) (And.intro (And.intro Tryd.ty_bu82 Tryd.ty_size83) (And.intro Tryd.ty_agg83 Tryd.ty_zero83))) (And.intro (And.intro (And.intro Tryd.ty_size84 Tryd.ty_agg84) (And.intro Tryd.ty_zero84 Tryd.ty_size86)) (And.intro (And.intro Tryd.ty_agg86 Tryd.ty_zero86) (And.intro Tryd.ty_size87 (And.intro Tryd.ty_agg87 Tryd.ty_zero87)))))) (And.intro (And.intro (And.intro (And.intro (And.intro Tryd.ty_size88 Tryd.ty_agg88) (And.intro Tryd.ty_zero88 Tryd.ty_size89)) (And.intro (And.intro Tryd.ty_agg89 Tryd.ty_zero89) (And.intro Tryd.ty_size90 Tryd.ty_bytes90))) (And.intro (And.intro (And.intro Tryd.ty_agg90 Tryd.ty_zero90) (And.intro Tryd.ty_sl90 Tryd.ty_b90)) (And.intro (And.intro Tryd.ty_fa90_0 Tryd.ty_ff90_0) (And.intro Tryd.ty_fa90_1 (And.intro Tryd.ty_ff90_1 Tryd.ty_bu90))))) (And.intro (And.intro (And.intro (And.intro Tryd.ty_size91 Tryd.ty_bytes91) (And.intro Tryd.ty_agg91 Tryd.ty_zero91)) (And.intro (And.intro Tryd.ty_sl91 Tryd.ty_b91) (And.intro Tryd.ty_fa91_0 Tryd.ty_ff91_0))) (And.intro (And.intro (And.intro Tryd.ty_fa91_1 Tryd.ty_ff91_1) (And.intro Tryd.ty_bu91 Tryd.ty_size92)) (And.intro (And.intro Tryd.ty_agg92 Tryd.ty_zero92) (And.intro Tryd.ty_size93 (And.intro Tryd.ty_agg93 Tryd.ty_zero93))))))) (And.intro (And.intro (And.intro (And.intro (And.intro (And.intro Tryd.ty_size94 Tryd.ty_agg94) (And.intro Tryd.ty_zero94 Tryd.ty_size95)) (And.intro (And.intro Tryd.ty_agg95 Tryd.ty_zero95) (And.intro Tryd.ty_size96 Tryd.ty_agg96))) (And.intro (And.intro (And.intro Tryd.ty_zero96 Tryd.ty_size97) (And.intro Tryd.ty_agg97 Tryd.ty_zero97)) (And.intro (And.intro Tryd.ty_size98 Tryd.ty_agg98) (And.intro Tryd.ty_zero98 (And.intro Tryd.ty_size99 Tryd.ty_agg99))))) (And.intro (And.intro (And.intro (And.intro Tryd.ty_zero99 Tryd.ty_size100) (And.intro Tryd.ty_agg100 Tryd.ty_zero100)) (And.intro (And.intro Tryd.ty_size101 Tryd.ty_agg101) (And.intro Tryd.ty_zero101 Tryd.ty_size102))) (And.intro (And.intro (And.intro Tryd.ty_bytes102 Tryd.ty_agg102) (And.intro Tryd.ty_zero102 Tryd.ty_sl102)) (And.intro (And.intro Tryd.ty_b102 Tryd.ty_fa102_0) (And.intro Tryd.ty_ff102_0 (And.intro Tryd.ty_fa102_1 Tryd.ty_ff102_1)))))) (And.intro (And.intro (And.intro (And.intro (And.intro Tryd.ty_fa102_2 Tryd.ty_ff102_2) (And.intro Tryd.ty_bu102 Tryd.ty_size103)) (And.intro (And.intro Tryd.ty_bytes103 Tryd.ty_agg103) (And.intro Tryd.ty_zero103 Tryd.ty_sl103))) (And.intro (And.intro (And.intro Tryd.ty_b103 Tryd.ty_fa103_0) (And.intro Tryd.ty_ff103_0 Tryd.ty_fa103_1)) (And.intro (And.intro Tryd.ty_ff103_1 Tryd.ty_fa103_2) (And.intro Tryd.ty_ff103_2 (And.intro Tryd.ty_bu103 Tryd.ty_size104))))) (And.intro (And.intro (And.intro (And.intro Tryd.ty_bytes104 Tryd.ty_agg104) (And.intro Tryd.ty_zero104 Tryd.ty_sl104)) (And.intro (And.intro Tryd.ty_b104 Tryd.ty_u104) (And.intro Tryd.ty_bu104 Tryd.ty_size105))) (And.intro (And.intro (And.intro Tryd.ty_bytes105 Tryd.ty_agg105) (And.intro Tryd.ty_zero105 Tryd.ty_sl105)) (And.intro (And.intro Tryd.ty_b105 Tryd.ty_size106) (And.intro Tryd.ty_bytes106 (And.intro Tryd.ty_agg106 Tryd.ty_zero106)))))))) (And.intro (And.intro (And.intro (And.intro (And.intro (And.intro (And.intro Tryd.ty_sl106 Tryd.ty_b106) (And.intro Tryd.ty_fa106_0 Tryd.ty_ff106_0)) (And.intro (And.intro Tryd.ty_fa106_1 Tryd.ty_ff106_1) (And.intro Tryd.ty_fa106_2 Tryd.ty_ff106_2))) (And.intro (And.intro (And.intro Tryd.ty_fa106_3 Tryd.ty_ff106_3) (And.intro Tryd.ty_fa106_4 Tryd.ty_ff106_4)) (And.intro (And.intro Tryd.ty_fa106_5 Tryd.ty_ff106_5) (And.intro Tryd.ty_bu106 (And.intro Tryd.ty_size107 Tryd.ty_bytes107))))) (And.intro (And.intro (And.intro (And.intro Tryd.ty_agg107 Tryd.ty_zero107) (And.intro Tryd.ty_sl107 Tryd.ty_b107)) (And.intro (And.intro Tryd.ty_fa107_0 Tryd.ty_ff107_0) (And.intro Tryd.ty_fa107_1 Tryd.ty_ff107_1))) (And.intro (And.intro (And.intro Tryd.ty_fa107_2 Tryd.ty_ff107_2) (And.intro Tryd.ty_fa107_3 Tryd.ty_ff107_3)) (And.intro (And.intro Tryd.ty_fa107_4 Tryd.ty_ff107_4) (And.intro Tryd.ty_fa107_5 (And.intro Tryd.ty_ff107_5 Tryd.ty_bu107)))))) (And.intro (And.intro (And.intro (And.intro (And.intro Tryd.ty_size108 Tryd.ty_agg108) (And.intro Tryd.ty_zero108 Tryd.ty_size109)) (And.intro (And.intro Tryd.ty_agg109 Tryd.ty_zero109) (And.intro Tryd.ty_size110 Tryd.ty_agg110))) (And.intro (And.intro (And.intro Tryd.ty_zero110 Tryd.ty_size111) (And.intro Tryd.ty_agg111 Tryd.ty_zero111)) (And.intro (And.intro Tryd.ty_size113 Tryd.ty_agg113) (And.intro Tryd.ty_zero113 (And.intro Tryd.ty_size114 Tryd.ty_agg114))))) (And.intro (And.intro (And.intro (And.intro Tryd.ty_zero114 Tryd.ty_size115) (And.intro Tryd.ty_agg115 Tryd.ty_zero115)) (And.intro (And.intro Tryd.ty_size116 Tryd.ty_bytes116) (And.intro Tryd.ty_agg116 Tryd.ty_zero116))) (And.intro (And.intro (And.intro Tryd.ty_sl116 Tryd.ty_b116) (And.intro Tryd.ty_u116 Tryd.ty_size117)) (And.intro (And.intro Tryd.ty_agg117 Tryd.ty_zero117) (And.intro Tryd.ty_size118 (And.intro Tryd.ty_agg118 Tryd.ty_zero118))))))) (And.intro (And.intro (And.intro (And.intro (And.intro (And.intro Tryd.ty_size119 Tryd.ty_bytes119) (And.intro Tryd.ty_agg119 Tryd.ty_zero119)) (And.intro (And.intro Tryd.ty_sl119 Tryd.ty_b119) (And.intro Tryd.ty_size120 Tryd.ty_bytes120))) (And.intro (And.intro (And.intro Tryd.ty_agg120 Tryd.ty_zero120) (And.intro Tryd.ty_sl120 Tryd.ty_b120)) (And.intro (And.intro Tryd.ty_fa120_0 Tryd.ty_ff120_0) (And.intro Tryd.ty_fa120_1 (And.intro Tryd.ty_ff120_1 Tryd.ty_fa120_2))))) (And.intro (And.intro (And.intro (And.intro Tryd.ty_ff120_2 Tryd.ty_bu120) (And.intro Tryd.ty_size121 Tryd.ty_bytes121)) (And.intro (And.intro Tryd.ty_agg121 Tryd.ty_zero121) (And.intro Tryd.ty_sl121 Tryd.ty_b121))) (And.intro (And.intro (And.intro Tryd.ty_fa121_0 Tryd.ty_ff121_0) (And.intro Tryd.ty_fa121_1 Tryd.ty_ff121_1)) (And.intro (And.intro Tryd.ty_fa121_2 Tryd.ty_ff121_2) (And.intro Tryd.ty_bu121 (And.intro Tryd.ty_size122 Tryd.ty_agg122)))))) (And.intro (And.intro (And.intro (And.intro (And.intro Tryd.ty_zero122 Tryd.ty_size123) (And.intro Tryd.ty_agg123 Tryd.ty_zero123)) (And.intro (And.intro Tryd.ty_size124 Tryd.ty_agg124) (And.intro Tryd.ty_zero124 Tryd.ty_size125))) (And.intro (And.intro (And.intro Tryd.ty_agg125 Tryd.ty_zero125) (And.intro Tryd.ty_size126 Tryd.ty_agg126)) (And.intro (And.intro Tryd.ty_zero126 Tryd.ty_size127) (And.intro Tryd.ty_agg127 (And.intro Tryd.ty_zero127 Tryd.ty_size128))))) (And.intro (And.intro (And.intro (And.intro Tryd.ty_agg128 Tryd.ty_zero128) (And.intro Tryd.ty_size129 Tryd.ty_agg129)) (And.intro (And.intro Tryd.ty_zero129 Tryd.ty_size130) (And.intro Tryd.ty_agg130 (And.intro Tryd.ty_zero130 Tryd.ty_size131)))) (And.intro (And.intro (And.intro Tryd.ty_agg131 Tryd.ty_zero131) (And.intro Tryd.ty_size132 Tryd.ty_bytes132)) (And.intro (And.intro Tryd.ty_agg132 Tryd.ty_zero132) (And.intro Tryd.ty_elem132 (And.intro Tryd.ty_sl132 Tryd.ty_ni132))))))))) (And.intro (And.intro (And.intro (And.intro (And.intro (And.intro (And.intro (And.intro Tryd.ty_b132 Tryd.ty_u132) (And.intro Tryd.ty_size133 Tryd.ty_bytes133)) (And.intro (And.intro Tryd.ty_agg133 Tryd.ty_zero133) (And.intro Tryd.ty_sl133 Tryd.ty_b133))) (And.intro (And.intro (And.intro Tryd.ty_fa133_0 Tryd.ty_ff133_0) (And.intro Tryd.ty_fa133_1 Tryd.ty_ff133_1)) (And.intro (And.intro Tryd.ty_fa133_2 Tryd.ty_ff133_2) (And.intro Tryd.ty_fa133_3 (And.intro Tryd.ty_ff133_3 Tryd.ty_fa133_4))))) (And.intro (And.intro (And.intro (And.intro Tryd.ty_ff133_4 Tryd.ty_fa133_5) (And.intro Tryd.ty_ff133_5 Tryd.ty_fa133_6)) (And.intro (And.intro Tryd.ty_ff133_6 Tryd.ty_fa133_7) (And.intro Tryd.ty_ff133_7 Tryd.ty_bu133))) (And.intro (And.intro (And.intro Tryd.ty_size134 Tryd.ty_bytes134) (And.intro Tryd.ty_agg134 Tryd.ty_zero134)) (And.intro (And.intro Tryd.ty_sl134 Tryd.ty_b134) (And.intro Tryd.ty_fa134_0 (And.intro Tryd.ty_ff134_0 Tryd.ty_fa134_1)))))) (And.intro (And.intro (And.intro (And.intro (And.intro Tryd.ty_ff134_1 Tryd.ty_fa134_2) (And.intro Tryd.ty_ff134_2 Tryd.ty_fa134_3)) (And.intro (And.intro Tryd.ty_ff134_3 Tryd.ty_fa134_4) (And.intro Tryd.ty_ff134_4 Tryd.ty_fa134_5))) (And.intro (And.intro (And.intro Tryd.ty_ff134_5 Tryd.ty_fa134_6) (And.intro Tryd.ty_ff134_6 Tryd.ty_fa134_7)) (And.intro (And.intro Tryd.ty_ff134_7 Tryd.ty_bu134) (And.intro Tryd.ty_size135 (And.intro Tryd.ty_bytes135 Tryd.ty_agg135))))) (And.intro (And.intro (And.intro (And.intro Tryd.ty_zero135 Tryd.ty_sl135) (And.intro Tryd.ty_b135 Tryd.ty_u135)) (And.intro (And.intro Tryd.ty_bu135 Tryd.ty_size136) (And.intro Tryd.ty_agg136 Tryd.ty_zero136))) (And.intro (And.intro (And.intro Tryd.ty_size137 Tryd.ty_agg137) (And.intro Tryd.ty_zero137 Tryd.ty_size138)) (And.intro (And.intro Tryd.ty_agg138 Tryd.ty_zero138) (And.intro Tryd.ty_size139 (And.intro Tryd.ty_agg139 Tryd.ty_zero139))))))) (And.intro (And.intro (And.intro (And.intro (And.intro (And.intro Tryd.ty_size141 Tryd.ty_agg141) (And.intro Tryd.ty_zero141 Tryd.ty_size142)) (And.intro (And.intro Tryd.ty_agg142 Tryd.ty_zero142) (And.intro Tryd.ty_size143 Tryd.ty_agg143))) (And.intro (And.intro (And.intro Tryd.ty_zero143 Tryd.ty_size144) (And.intro Tryd.ty_agg144 Tryd.ty_zero144)) (And.intro (And.intro Tryd.ty_size145 Tryd.ty_agg145) (And.intro Tryd.ty_zero145 (And.intro Tryd.ty_size147 Tryd.ty_bytes147))))) (And.intro (And.intro (And.intro (And.intro Tryd.ty_agg147 Tryd.ty_zero147) (And.intro Tryd.ty_sl147 Tryd.ty_b147)) (And.intro (And.intro Tryd.ty_map147 Tryd.ty_u147) (And.intro Tryd.ty_size148 Tryd.ty_agg148))) (And.intro (And.intro (And.intro Tryd.ty_zero148 Tryd.ty_size149) (And.intro Tryd.ty_agg149 Tryd.ty_zero149)) (And.intro (And.intro Tryd.ty_size150 Tryd.ty_bytes150) (And.intro Tryd.ty_agg150 (And.intro Tryd.ty_zero150 Tryd.ty_sl150)))))) (And.intro (And.intro (And.intro (And.intro (And.intro Tryd.ty_b150 Tryd.ty_fa150_0) (And.intro Tryd.ty_ff150_0 Tryd.ty_fa150_1)) (And.intro (And.intro Tryd.ty_ff150_1 Tryd.ty_fa150_2) (And.intro Tryd.ty_ff150_2 Tryd.ty_fa150_3))) (And.intro (And.intro (And.intro Tryd.ty_ff150_3 Tryd.ty_bu150) (And.intro Tryd.ty_size151 Tryd.ty_bytes151)) (And.intro (And.intro Tryd.ty_agg151 Tryd.ty_zero151) (And.intro Tryd.ty_sl151 (And.intro Tryd.ty_b151 Tryd.ty_fa151_0))))) (And.intro (And.intro (And.intro (And.intro Tryd.ty_ff151_0 Tryd.ty_fa151_1) (And.intro Tryd.ty_ff151_1 Tryd.ty_fa151_2)) (And.intro (And.intro Tryd.ty_ff151_2 Tryd.ty_fa151_3) (And.intro Tryd.ty_ff151_3 (And.intro Tryd.ty_bu151 Tryd.ty_size152)))) (And.intro (And.intro (And.intro Tryd.ty_bytes152 Tryd.ty_agg152) (And.intro Tryd.ty_zero152 Tryd.ty_sl152)) (And.intro (And.intro Tryd.ty_b152 Tryd.ty_u152) (And.intro Tryd.ty_bu152 (And.intro Tryd.ty_size153 Tryd.ty_bytes153)))))))) (And.intro (And.intro (And.intro (And.intro (And.intro (And.intro (And.intro Tryd.ty_agg153 Tryd.ty_zero153) (And.intro Tryd.ty_sl153 Tryd.ty_b153)) (And.intro (And.intro Tryd.ty_fa153_0 Tryd.ty_ff153_0) (And.intro Tryd.ty_bu153 Tryd.ty_size154))) (And.intro (And.intro (And.intro Tryd.ty_bytes154 Tryd.ty_agg154) (And.intro Tryd.ty_zero154 Tryd.ty_sl154)) (And.intro (And.intro Tryd.ty_b154 Tryd.ty_fa154_0) (And.intro Tryd.ty_ff154_0 (And.intro Tryd.ty_bu154 Tryd.ty_size155))))) (And.intro (And.intro (And.intro (And.intro Tryd.ty_agg155 Tryd.ty_zero155) (And.intro Tryd.ty_size156 Tryd.ty_bytes156)) (And.intro (And.intro Tryd.ty_agg156 Tryd.ty_zero156) (And.intro Tryd.ty_sl156 Tryd.ty_b156))) (And.intro (And.intro (And.intro Tryd.ty_u156 Tryd.ty_size157) (And.intro Tryd.ty_bytes157 Tryd.ty_agg157)) (And.intro (And.intro Tryd.ty_zero157 Tryd.ty_sl157) (And.intro Tryd.ty_b157 (And.intro Tryd.ty_u157 Tryd.ty_size158)))))) (And.intro (And.intro (And.intro (And.intro (And.intro Tryd.ty_bytes158 Tryd.ty_agg158) (And.intro Tryd.ty_zero158 Tryd.ty_sl158)) (And.intro (And.intro Tryd.ty_b158 Tryd.ty_u158) (And.intro Tryd.ty_size159 Tryd.ty_agg159))) (And.intro (And.intro (And.intro Tryd.ty_zero159 Tryd.ty_size160) (And.intro Tryd.ty_bytes160 Tryd.ty_agg160)) (And.intro (And.intro Tryd.ty_zero160 Tryd.ty_sl160) (And.intro Tryd.ty_b160 (And.intro Tryd.ty_size161 Tryd.ty_bytes161))))) (And.intro (And.intro (And.intro (And.intro Tryd.ty_agg161 Tryd.ty_zero161) (And.intro Tryd.ty_sl161 Tryd.ty_b161)) (And.intro (And.intro Tryd.ty_u161 Tryd.ty_size162) (And.intro Tryd.ty_bytes162 Tryd.ty_agg162))) (And.intro (And.intro (And.intro Tryd.ty_zero162 Tryd.ty_sl162) (And.intro Tryd.ty_b162 Tryd.ty_u162)) (And.intro (And.intro Tryd.ty_size163 Tryd.ty_bytes163) (And.intro Tryd.ty_agg163 (And.intro Tryd.ty_zero163 Tryd.ty_sl163))))))) (And.intro (And.intro (And.intro (And.intro (And.intro (And.intro Tryd.ty_b163 Tryd.ty_fa163_0) (And.intro Tryd.ty_ff163_0 Tryd.ty_fa163_1)) (And.intro (And.intro Tryd.ty_ff163_1 Tryd.ty_fa163_2) (And.intro Tryd.ty_ff163_2 Tryd.ty_fa163_3))) (And.intro (And.intro (And.intro Tryd.ty_ff163_3 Tryd.ty_fa163_4) (And.intro Tryd.ty_ff163_4 Tryd.ty_fa163_5)) (And.intro (And.intro Tryd.ty_ff163_5 Tryd.ty_fa163_6) (And.intro Tryd.ty_ff163_6 (And.intro Tryd.ty_fa163_7 Tryd.ty_ff163_7))))) (And.intro (And.intro (And.intro (And.intro Tryd.ty_fa163_8 Tryd.ty_ff163_8) (And.intro Tryd.ty_fa163_9 Tryd.ty_ff163_9)) (And.intro (And.intro Tryd.ty_fa163_10 Tryd.ty_ff163_10) (And.intro Tryd.ty_bu163 Tryd.ty_size164))) (And.intro (And.intro (And.intro Tryd.ty_bytes164 Tryd.ty_agg164) (And.intro Tryd.ty_zero164 Tryd.ty_sl164)) (And.intro (And.intro Tryd.ty_b164 Tryd.ty_fa164_0) (And.intro Tryd.ty_ff164_0 (And.intro Tryd.ty_fa164_1 Tryd.ty_ff164_1)))))) (And.intro (And.intro (And.intro (And.intro (And.intro Tryd.ty_fa164_2 Tryd.ty_ff164_2) (And.intro Tryd.ty_fa164_3 Tryd.ty_ff164_3)) (And.intro (And.intro Tryd.ty_fa164_4 Tryd.ty_ff164_4) (And.intro Tryd.ty_fa164_5 Tryd.ty_ff164_5))) (And.intro (And.intro (And.intro Tryd.ty_fa164_6 Tryd.ty_ff164_6) (And.intro Tryd.ty_fa164_7 Tryd.ty_ff164_7)) (And.intro (And.intro Tryd.ty_fa164_8 Tryd.ty_ff164_8) (And.intro Tryd.ty_fa164_9 (And.intro Tryd.ty_ff164_9 Tryd.ty_fa164_10))))) (And.intro (And.intro (And.intro (And.intro Tryd.ty_ff164_10 Tryd.ty_bu164) (And.intro Tryd.ty_size165 Tryd.ty_bytes165)) (And.intro (And.intro Tryd.ty_agg165 Tryd.ty_zero165) (And.intro Tryd.ty_sl165 (And.intro Tryd.ty_b165 Tryd.ty_size166)))) (And.intro (And.intro (And.intro Tryd.ty_bytes166 Tryd.ty_agg166) (And.intro Tryd.ty_zero166 Tryd.ty_sl166)) (And.intro (And.intro Tryd.ty_b166 Tryd.ty_u166) (And.intro Tryd.ty_size167 (And.intro Tryd.ty_agg167 Tryd.ty_zero167)))))))))))
end Go.Proofs.YtbbgolecnmifpaaDoor
