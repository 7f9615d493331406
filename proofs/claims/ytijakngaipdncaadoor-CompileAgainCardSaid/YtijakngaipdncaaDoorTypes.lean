import Derived.Test.YtijakngaipdncaaDoorRows
import Derived.Test.YtijakngaipdncaaDoorAB
set_option linter.unusedVariables false
set_option maxRecDepth 100000
namespace Go.Proofs.YtijakngaipdncaaDoor
open Go.AM
theorem Tryd.ty_size3 : tsize Tryd.prog 3 = some 1 := by kernel_rfl
theorem Tryd.ty_bytes3 : tbytes Tryd.prog 3 = some 8 := by kernel_rfl
theorem Tryd.ty_agg3 : tagg Tryd.prog 3 = some false := by kernel_rfl
theorem Tryd.ty_zero3 : tzero Tryd.prog 3 = some (.int .i64 0) := by kernel_rfl
theorem Tryd.ty_sl3 : isSlice Tryd.prog 3 = false := by kernel_rfl
theorem Tryd.ty_b3 : isBool Tryd.prog 3 = false := by kernel_rfl
theorem Tryd.ty_u3 : Tryd.prog.underlying 3 = some (.int .i64) := by kernel_rfl
theorem Tryd.ty_size4 : tsize Tryd.prog 4 = some 1 := by kernel_rfl
theorem Tryd.ty_bytes4 : tbytes Tryd.prog 4 = some 1 := by kernel_rfl
theorem Tryd.ty_agg4 : tagg Tryd.prog 4 = some false := by kernel_rfl
theorem Tryd.ty_zero4 : tzero Tryd.prog 4 = some (.bool false) := by kernel_rfl
theorem Tryd.ty_sl4 : isSlice Tryd.prog 4 = false := by kernel_rfl
theorem Tryd.ty_b4 : isBool Tryd.prog 4 = true := by kernel_rfl
theorem Tryd.ty_size22 : tsize Tryd.prog 22 = some 1 := by kernel_rfl
theorem Tryd.ty_bytes22 : tbytes Tryd.prog 22 = some 24 := by kernel_rfl
theorem Tryd.ty_agg22 : tagg Tryd.prog 22 = some false := by kernel_rfl
theorem Tryd.ty_zero22 : tzero Tryd.prog 22 = some (.sl true []) := by kernel_rfl
theorem Tryd.ty_elem22 : elemOf' Tryd.prog 22 = some 3 := by kernel_rfl
theorem Tryd.ty_sl22 : isSlice Tryd.prog 22 = true := by kernel_rfl
theorem Tryd.ty_ni22 : notInt Tryd.prog 22 = true := by kernel_rfl
theorem Tryd.ty_b22 : isBool Tryd.prog 22 = false := by kernel_rfl
theorem Tryd.ty_u22 : Tryd.prog.underlying 22 = some (.slice 3) := by kernel_rfl
theorem Tryd.ty_size23 : tsize Tryd.prog 23 = some 1 := by kernel_rfl
theorem Tryd.ty_bytes23 : tbytes Tryd.prog 23 = some 24 := by kernel_rfl
theorem Tryd.ty_agg23 : tagg Tryd.prog 23 = some false := by kernel_rfl
theorem Tryd.ty_zero23 : tzero Tryd.prog 23 = some (.sl true []) := by kernel_rfl
theorem Tryd.ty_elem23 : elemOf' Tryd.prog 23 = some 25 := by kernel_rfl
theorem Tryd.ty_sl23 : isSlice Tryd.prog 23 = true := by kernel_rfl
theorem Tryd.ty_ni23 : notInt Tryd.prog 23 = true := by kernel_rfl
theorem Tryd.ty_b23 : isBool Tryd.prog 23 = false := by kernel_rfl
theorem Tryd.ty_u23 : Tryd.prog.underlying 23 = some (.slice 25) := by kernel_rfl
theorem Tryd.ty_size24 : tsize Tryd.prog 24 = some 4 := by kernel_rfl
theorem Tryd.ty_bytes24 : tbytes Tryd.prog 24 = some 48 := by kernel_rfl
theorem Tryd.ty_agg24 : tagg Tryd.prog 24 = some true := by kernel_rfl
theorem Tryd.ty_zero24 : tzero Tryd.prog 24 = some (.agg [.int .i64 0, .int .i64 0, .int .i64 0, .sl true []]) := by kernel_rfl
theorem Tryd.ty_sl24 : isSlice Tryd.prog 24 = false := by kernel_rfl
theorem Tryd.ty_b24 : isBool Tryd.prog 24 = false := by kernel_rfl
theorem Tryd.ty_f24_0 : (fieldOf Tryd.prog 24 0).map (fun d => (d.type, d.offset)) = some (3, 0) := by kernel_rfl
theorem Tryd.ty_fo24_0 : ∃ d, fieldOf Tryd.prog 24 0 = some d ∧ d.type = 3 ∧ d.offset = 0 := fieldOf_some Tryd.ty_f24_0
theorem Tryd.ty_fa24_0 (x : AV) (rows : Nat → ARow) : aFieldAddr Tryd.prog 24 x 0 rows = fieldAddrA Tryd.prog 3 0 x rows := aFieldAddr_of Tryd.ty_fo24_0 x rows
theorem Tryd.ty_ff24_0 (x : AV) : aField Tryd.prog 24 x 0 = fieldA Tryd.prog 3 0 x := aField_of Tryd.ty_fo24_0 x
theorem Tryd.ty_f24_1 : (fieldOf Tryd.prog 24 1).map (fun d => (d.type, d.offset)) = some (3, 1) := by kernel_rfl
theorem Tryd.ty_fo24_1 : ∃ d, fieldOf Tryd.prog 24 1 = some d ∧ d.type = 3 ∧ d.offset = 1 := fieldOf_some Tryd.ty_f24_1
theorem Tryd.ty_fa24_1 (x : AV) (rows : Nat → ARow) : aFieldAddr Tryd.prog 24 x 1 rows = fieldAddrA Tryd.prog 3 1 x rows := aFieldAddr_of Tryd.ty_fo24_1 x rows
theorem Tryd.ty_ff24_1 (x : AV) : aField Tryd.prog 24 x 1 = fieldA Tryd.prog 3 1 x := aField_of Tryd.ty_fo24_1 x
theorem Tryd.ty_f24_2 : (fieldOf Tryd.prog 24 2).map (fun d => (d.type, d.offset)) = some (3, 2) := by kernel_rfl
theorem Tryd.ty_fo24_2 : ∃ d, fieldOf Tryd.prog 24 2 = some d ∧ d.type = 3 ∧ d.offset = 2 := fieldOf_some Tryd.ty_f24_2
theorem Tryd.ty_fa24_2 (x : AV) (rows : Nat → ARow) : aFieldAddr Tryd.prog 24 x 2 rows = fieldAddrA Tryd.prog 3 2 x rows := aFieldAddr_of Tryd.ty_fo24_2 x rows
theorem Tryd.ty_ff24_2 (x : AV) : aField Tryd.prog 24 x 2 = fieldA Tryd.prog 3 2 x := aField_of Tryd.ty_fo24_2 x
theorem Tryd.ty_f24_3 : (fieldOf Tryd.prog 24 3).map (fun d => (d.type, d.offset)) = some (23, 3) := by kernel_rfl
theorem Tryd.ty_fo24_3 : ∃ d, fieldOf Tryd.prog 24 3 = some d ∧ d.type = 23 ∧ d.offset = 3 := fieldOf_some Tryd.ty_f24_3
theorem Tryd.ty_fa24_3 (x : AV) (rows : Nat → ARow) : aFieldAddr Tryd.prog 24 x 3 rows = fieldAddrA Tryd.prog 23 3 x rows := aFieldAddr_of Tryd.ty_fo24_3 x rows
theorem Tryd.ty_ff24_3 (x : AV) : aField Tryd.prog 24 x 3 = fieldA Tryd.prog 23 3 x := aField_of Tryd.ty_fo24_3 x
theorem Tryd.ty_bu24 (parts : List (Nat × AV)) : aBuild Tryd.prog 24 parts = (fillA (fun i => ([(0, 1), (1, 1), (2, 1), (3, 1)] : List (Nat × Nat))[i]?) [.int .i64 0, .int .i64 0, .int .i64 0, .sl true []] parts).map .agg := aBuild_struct (by kernel_rfl) (by kernel_rfl)
theorem Tryd.ty_size25 : tsize Tryd.prog 25 = some 4 := by kernel_rfl
theorem Tryd.ty_bytes25 : tbytes Tryd.prog 25 = some 48 := by kernel_rfl
theorem Tryd.ty_agg25 : tagg Tryd.prog 25 = some true := by kernel_rfl
theorem Tryd.ty_zero25 : tzero Tryd.prog 25 = some (.agg [.int .i64 0, .int .i64 0, .int .i64 0, .sl true []]) := by kernel_rfl
theorem Tryd.ty_sl25 : isSlice Tryd.prog 25 = false := by kernel_rfl
theorem Tryd.ty_b25 : isBool Tryd.prog 25 = false := by kernel_rfl
theorem Tryd.ty_f25_0 : (fieldOf Tryd.prog 25 0).map (fun d => (d.type, d.offset)) = some (3, 0) := by kernel_rfl
theorem Tryd.ty_fo25_0 : ∃ d, fieldOf Tryd.prog 25 0 = some d ∧ d.type = 3 ∧ d.offset = 0 := fieldOf_some Tryd.ty_f25_0
theorem Tryd.ty_fa25_0 (x : AV) (rows : Nat → ARow) : aFieldAddr Tryd.prog 25 x 0 rows = fieldAddrA Tryd.prog 3 0 x rows := aFieldAddr_of Tryd.ty_fo25_0 x rows
theorem Tryd.ty_ff25_0 (x : AV) : aField Tryd.prog 25 x 0 = fieldA Tryd.prog 3 0 x := aField_of Tryd.ty_fo25_0 x
theorem Tryd.ty_f25_1 : (fieldOf Tryd.prog 25 1).map (fun d => (d.type, d.offset)) = some (3, 1) := by kernel_rfl
theorem Tryd.ty_fo25_1 : ∃ d, fieldOf Tryd.prog 25 1 = some d ∧ d.type = 3 ∧ d.offset = 1 := fieldOf_some Tryd.ty_f25_1
theorem Tryd.ty_fa25_1 (x : AV) (rows : Nat → ARow) : aFieldAddr Tryd.prog 25 x 1 rows = fieldAddrA Tryd.prog 3 1 x rows := aFieldAddr_of Tryd.ty_fo25_1 x rows
theorem Tryd.ty_ff25_1 (x : AV) : aField Tryd.prog 25 x 1 = fieldA Tryd.prog 3 1 x := aField_of Tryd.ty_fo25_1 x
theorem Tryd.ty_f25_2 : (fieldOf Tryd.prog 25 2).map (fun d => (d.type, d.offset)) = some (3, 2) := by kernel_rfl
theorem Tryd.ty_fo25_2 : ∃ d, fieldOf Tryd.prog 25 2 = some d ∧ d.type = 3 ∧ d.offset = 2 := fieldOf_some Tryd.ty_f25_2
theorem Tryd.ty_fa25_2 (x : AV) (rows : Nat → ARow) : aFieldAddr Tryd.prog 25 x 2 rows = fieldAddrA Tryd.prog 3 2 x rows := aFieldAddr_of Tryd.ty_fo25_2 x rows
theorem Tryd.ty_ff25_2 (x : AV) : aField Tryd.prog 25 x 2 = fieldA Tryd.prog 3 2 x := aField_of Tryd.ty_fo25_2 x
theorem Tryd.ty_f25_3 : (fieldOf Tryd.prog 25 3).map (fun d => (d.type, d.offset)) = some (23, 3) := by kernel_rfl
theorem Tryd.ty_fo25_3 : ∃ d, fieldOf Tryd.prog 25 3 = some d ∧ d.type = 23 ∧ d.offset = 3 := fieldOf_some Tryd.ty_f25_3
theorem Tryd.ty_fa25_3 (x : AV) (rows : Nat → ARow) : aFieldAddr Tryd.prog 25 x 3 rows = fieldAddrA Tryd.prog 23 3 x rows := aFieldAddr_of Tryd.ty_fo25_3 x rows
theorem Tryd.ty_ff25_3 (x : AV) : aField Tryd.prog 25 x 3 = fieldA Tryd.prog 23 3 x := aField_of Tryd.ty_fo25_3 x
theorem Tryd.ty_bu25 (parts : List (Nat × AV)) : aBuild Tryd.prog 25 parts = (fillA (fun i => ([(0, 1), (1, 1), (2, 1), (3, 1)] : List (Nat × Nat))[i]?) [.int .i64 0, .int .i64 0, .int .i64 0, .sl true []] parts).map .agg := aBuild_struct (by kernel_rfl) (by kernel_rfl)
theorem Tryd.ty_size27 : tsize Tryd.prog 27 = some 1 := by kernel_rfl
theorem Tryd.ty_bytes27 : tbytes Tryd.prog 27 = some 24 := by kernel_rfl
theorem Tryd.ty_agg27 : tagg Tryd.prog 27 = some false := by kernel_rfl
theorem Tryd.ty_zero27 : tzero Tryd.prog 27 = some (.sl true []) := by kernel_rfl
theorem Tryd.ty_elem27 : elemOf' Tryd.prog 27 = some 22 := by kernel_rfl
theorem Tryd.ty_sl27 : isSlice Tryd.prog 27 = true := by kernel_rfl
theorem Tryd.ty_ni27 : notInt Tryd.prog 27 = true := by kernel_rfl
theorem Tryd.ty_b27 : isBool Tryd.prog 27 = false := by kernel_rfl
theorem Tryd.ty_u27 : Tryd.prog.underlying 27 = some (.slice 22) := by kernel_rfl
theorem Tryd.ty_size32 : tsize Tryd.prog 32 = some 1 := by kernel_rfl
theorem Tryd.ty_agg32 : tagg Tryd.prog 32 = some false := by kernel_rfl
theorem Tryd.ty_zero32 : tzero Tryd.prog 32 = some .nilfn := by kernel_rfl
theorem Tryd.ty_size38 : tsize Tryd.prog 38 = some 1 := by kernel_rfl
theorem Tryd.ty_bytes38 : tbytes Tryd.prog 38 = some 8 := by kernel_rfl
theorem Tryd.ty_agg38 : tagg Tryd.prog 38 = some false := by kernel_rfl
theorem Tryd.ty_zero38 : tzero Tryd.prog 38 = some (.nilptr) := by kernel_rfl
theorem Tryd.ty_sl38 : isSlice Tryd.prog 38 = false := by kernel_rfl
theorem Tryd.ty_b38 : isBool Tryd.prog 38 = false := by kernel_rfl
theorem Tryd.ty_size39 : tsize Tryd.prog 39 = some 3 := by kernel_rfl
theorem Tryd.ty_bytes39 : tbytes Tryd.prog 39 = some 40 := by kernel_rfl
theorem Tryd.ty_agg39 : tagg Tryd.prog 39 = some true := by kernel_rfl
theorem Tryd.ty_zero39 : tzero Tryd.prog 39 = some (.agg [.sl true [], .int .i64 0, .int .i64 0]) := by kernel_rfl
theorem Tryd.ty_sl39 : isSlice Tryd.prog 39 = false := by kernel_rfl
theorem Tryd.ty_b39 : isBool Tryd.prog 39 = false := by kernel_rfl
theorem Tryd.ty_f39_0 : (fieldOf Tryd.prog 39 0).map (fun d => (d.type, d.offset)) = some (22, 0) := by kernel_rfl
theorem Tryd.ty_fo39_0 : ∃ d, fieldOf Tryd.prog 39 0 = some d ∧ d.type = 22 ∧ d.offset = 0 := fieldOf_some Tryd.ty_f39_0
theorem Tryd.ty_fa39_0 (x : AV) (rows : Nat → ARow) : aFieldAddr Tryd.prog 39 x 0 rows = fieldAddrA Tryd.prog 22 0 x rows := aFieldAddr_of Tryd.ty_fo39_0 x rows
theorem Tryd.ty_ff39_0 (x : AV) : aField Tryd.prog 39 x 0 = fieldA Tryd.prog 22 0 x := aField_of Tryd.ty_fo39_0 x
theorem Tryd.ty_f39_1 : (fieldOf Tryd.prog 39 1).map (fun d => (d.type, d.offset)) = some (3, 1) := by kernel_rfl
theorem Tryd.ty_fo39_1 : ∃ d, fieldOf Tryd.prog 39 1 = some d ∧ d.type = 3 ∧ d.offset = 1 := fieldOf_some Tryd.ty_f39_1
theorem Tryd.ty_fa39_1 (x : AV) (rows : Nat → ARow) : aFieldAddr Tryd.prog 39 x 1 rows = fieldAddrA Tryd.prog 3 1 x rows := aFieldAddr_of Tryd.ty_fo39_1 x rows
theorem Tryd.ty_ff39_1 (x : AV) : aField Tryd.prog 39 x 1 = fieldA Tryd.prog 3 1 x := aField_of Tryd.ty_fo39_1 x
theorem Tryd.ty_f39_2 : (fieldOf Tryd.prog 39 2).map (fun d => (d.type, d.offset)) = some (3, 2) := by kernel_rfl
theorem Tryd.ty_fo39_2 : ∃ d, fieldOf Tryd.prog 39 2 = some d ∧ d.type = 3 ∧ d.offset = 2 := fieldOf_some Tryd.ty_f39_2
theorem Tryd.ty_fa39_2 (x : AV) (rows : Nat → ARow) : aFieldAddr Tryd.prog 39 x 2 rows = fieldAddrA Tryd.prog 3 2 x rows := aFieldAddr_of Tryd.ty_fo39_2 x rows
theorem Tryd.ty_ff39_2 (x : AV) : aField Tryd.prog 39 x 2 = fieldA Tryd.prog 3 2 x := aField_of Tryd.ty_fo39_2 x
theorem Tryd.ty_bu39 (parts : List (Nat × AV)) : aBuild Tryd.prog 39 parts = (fillA (fun i => ([(0, 1), (1, 1), (2, 1)] : List (Nat × Nat))[i]?) [.sl true [], .int .i64 0, .int .i64 0] parts).map .agg := aBuild_struct (by kernel_rfl) (by kernel_rfl)
theorem Tryd.ty_size40 : tsize Tryd.prog 40 = some 3 := by kernel_rfl
theorem Tryd.ty_bytes40 : tbytes Tryd.prog 40 = some 40 := by kernel_rfl
theorem Tryd.ty_agg40 : tagg Tryd.prog 40 = some true := by kernel_rfl
theorem Tryd.ty_zero40 : tzero Tryd.prog 40 = some (.agg [.sl true [], .int .i64 0, .int .i64 0]) := by kernel_rfl
theorem Tryd.ty_sl40 : isSlice Tryd.prog 40 = false := by kernel_rfl
theorem Tryd.ty_b40 : isBool Tryd.prog 40 = false := by kernel_rfl
theorem Tryd.ty_f40_0 : (fieldOf Tryd.prog 40 0).map (fun d => (d.type, d.offset)) = some (22, 0) := by kernel_rfl
theorem Tryd.ty_fo40_0 : ∃ d, fieldOf Tryd.prog 40 0 = some d ∧ d.type = 22 ∧ d.offset = 0 := fieldOf_some Tryd.ty_f40_0
theorem Tryd.ty_fa40_0 (x : AV) (rows : Nat → ARow) : aFieldAddr Tryd.prog 40 x 0 rows = fieldAddrA Tryd.prog 22 0 x rows := aFieldAddr_of Tryd.ty_fo40_0 x rows
theorem Tryd.ty_ff40_0 (x : AV) : aField Tryd.prog 40 x 0 = fieldA Tryd.prog 22 0 x := aField_of Tryd.ty_fo40_0 x
theorem Tryd.ty_f40_1 : (fieldOf Tryd.prog 40 1).map (fun d => (d.type, d.offset)) = some (3, 1) := by kernel_rfl
theorem Tryd.ty_fo40_1 : ∃ d, fieldOf Tryd.prog 40 1 = some d ∧ d.type = 3 ∧ d.offset = 1 := fieldOf_some Tryd.ty_f40_1
theorem Tryd.ty_fa40_1 (x : AV) (rows : Nat → ARow) : aFieldAddr Tryd.prog 40 x 1 rows = fieldAddrA Tryd.prog 3 1 x rows := aFieldAddr_of Tryd.ty_fo40_1 x rows
theorem Tryd.ty_ff40_1 (x : AV) : aField Tryd.prog 40 x 1 = fieldA Tryd.prog 3 1 x := aField_of Tryd.ty_fo40_1 x
theorem Tryd.ty_f40_2 : (fieldOf Tryd.prog 40 2).map (fun d => (d.type, d.offset)) = some (3, 2) := by kernel_rfl
theorem Tryd.ty_fo40_2 : ∃ d, fieldOf Tryd.prog 40 2 = some d ∧ d.type = 3 ∧ d.offset = 2 := fieldOf_some Tryd.ty_f40_2
theorem Tryd.ty_fa40_2 (x : AV) (rows : Nat → ARow) : aFieldAddr Tryd.prog 40 x 2 rows = fieldAddrA Tryd.prog 3 2 x rows := aFieldAddr_of Tryd.ty_fo40_2 x rows
theorem Tryd.ty_ff40_2 (x : AV) : aField Tryd.prog 40 x 2 = fieldA Tryd.prog 3 2 x := aField_of Tryd.ty_fo40_2 x
theorem Tryd.ty_bu40 (parts : List (Nat × AV)) : aBuild Tryd.prog 40 parts = (fillA (fun i => ([(0, 1), (1, 1), (2, 1)] : List (Nat × Nat))[i]?) [.sl true [], .int .i64 0, .int .i64 0] parts).map .agg := aBuild_struct (by kernel_rfl) (by kernel_rfl)
theorem Tryd.ty_size44 : tsize Tryd.prog 44 = some 1 := by kernel_rfl
theorem Tryd.ty_bytes44 : tbytes Tryd.prog 44 = some 24 := by kernel_rfl
theorem Tryd.ty_agg44 : tagg Tryd.prog 44 = some false := by kernel_rfl
theorem Tryd.ty_zero44 : tzero Tryd.prog 44 = some (.sl true []) := by kernel_rfl
theorem Tryd.ty_elem44 : elemOf' Tryd.prog 44 = some 46 := by kernel_rfl
theorem Tryd.ty_sl44 : isSlice Tryd.prog 44 = true := by kernel_rfl
theorem Tryd.ty_ni44 : notInt Tryd.prog 44 = true := by kernel_rfl
theorem Tryd.ty_b44 : isBool Tryd.prog 44 = false := by kernel_rfl
theorem Tryd.ty_u44 : Tryd.prog.underlying 44 = some (.slice 46) := by kernel_rfl
theorem Tryd.ty_size45 : tsize Tryd.prog 45 = some 6 := by kernel_rfl
theorem Tryd.ty_bytes45 : tbytes Tryd.prog 45 = some 64 := by kernel_rfl
theorem Tryd.ty_agg45 : tagg Tryd.prog 45 = some true := by kernel_rfl
theorem Tryd.ty_zero45 : tzero Tryd.prog 45 = some (.agg [.int .i64 0, .int .i64 0, .int .i64 0, .int .i64 0, .bool false, .sl true []]) := by kernel_rfl
theorem Tryd.ty_sl45 : isSlice Tryd.prog 45 = false := by kernel_rfl
theorem Tryd.ty_b45 : isBool Tryd.prog 45 = false := by kernel_rfl
theorem Tryd.ty_f45_0 : (fieldOf Tryd.prog 45 0).map (fun d => (d.type, d.offset)) = some (3, 0) := by kernel_rfl
theorem Tryd.ty_fo45_0 : ∃ d, fieldOf Tryd.prog 45 0 = some d ∧ d.type = 3 ∧ d.offset = 0 := fieldOf_some Tryd.ty_f45_0
theorem Tryd.ty_fa45_0 (x : AV) (rows : Nat → ARow) : aFieldAddr Tryd.prog 45 x 0 rows = fieldAddrA Tryd.prog 3 0 x rows := aFieldAddr_of Tryd.ty_fo45_0 x rows
theorem Tryd.ty_ff45_0 (x : AV) : aField Tryd.prog 45 x 0 = fieldA Tryd.prog 3 0 x := aField_of Tryd.ty_fo45_0 x
theorem Tryd.ty_f45_1 : (fieldOf Tryd.prog 45 1).map (fun d => (d.type, d.offset)) = some (3, 1) := by kernel_rfl
theorem Tryd.ty_fo45_1 : ∃ d, fieldOf Tryd.prog 45 1 = some d ∧ d.type = 3 ∧ d.offset = 1 := fieldOf_some Tryd.ty_f45_1
theorem Tryd.ty_fa45_1 (x : AV) (rows : Nat → ARow) : aFieldAddr Tryd.prog 45 x 1 rows = fieldAddrA Tryd.prog 3 1 x rows := aFieldAddr_of Tryd.ty_fo45_1 x rows
theorem Tryd.ty_ff45_1 (x : AV) : aField Tryd.prog 45 x 1 = fieldA Tryd.prog 3 1 x := aField_of Tryd.ty_fo45_1 x
theorem Tryd.ty_f45_2 : (fieldOf Tryd.prog 45 2).map (fun d => (d.type, d.offset)) = some (3, 2) := by kernel_rfl
theorem Tryd.ty_fo45_2 : ∃ d, fieldOf Tryd.prog 45 2 = some d ∧ d.type = 3 ∧ d.offset = 2 := fieldOf_some Tryd.ty_f45_2
theorem Tryd.ty_fa45_2 (x : AV) (rows : Nat → ARow) : aFieldAddr Tryd.prog 45 x 2 rows = fieldAddrA Tryd.prog 3 2 x rows := aFieldAddr_of Tryd.ty_fo45_2 x rows
theorem Tryd.ty_ff45_2 (x : AV) : aField Tryd.prog 45 x 2 = fieldA Tryd.prog 3 2 x := aField_of Tryd.ty_fo45_2 x
theorem Tryd.ty_f45_3 : (fieldOf Tryd.prog 45 3).map (fun d => (d.type, d.offset)) = some (3, 3) := by kernel_rfl
theorem Tryd.ty_fo45_3 : ∃ d, fieldOf Tryd.prog 45 3 = some d ∧ d.type = 3 ∧ d.offset = 3 := fieldOf_some Tryd.ty_f45_3
theorem Tryd.ty_fa45_3 (x : AV) (rows : Nat → ARow) : aFieldAddr Tryd.prog 45 x 3 rows = fieldAddrA Tryd.prog 3 3 x rows := aFieldAddr_of Tryd.ty_fo45_3 x rows
theorem Tryd.ty_ff45_3 (x : AV) : aField Tryd.prog 45 x 3 = fieldA Tryd.prog 3 3 x := aField_of Tryd.ty_fo45_3 x
theorem Tryd.ty_f45_4 : (fieldOf Tryd.prog 45 4).map (fun d => (d.type, d.offset)) = some (4, 4) := by kernel_rfl
theorem Tryd.ty_fo45_4 : ∃ d, fieldOf Tryd.prog 45 4 = some d ∧ d.type = 4 ∧ d.offset = 4 := fieldOf_some Tryd.ty_f45_4
theorem Tryd.ty_fa45_4 (x : AV) (rows : Nat → ARow) : aFieldAddr Tryd.prog 45 x 4 rows = fieldAddrA Tryd.prog 4 4 x rows := aFieldAddr_of Tryd.ty_fo45_4 x rows
theorem Tryd.ty_ff45_4 (x : AV) : aField Tryd.prog 45 x 4 = fieldA Tryd.prog 4 4 x := aField_of Tryd.ty_fo45_4 x
theorem Tryd.ty_f45_5 : (fieldOf Tryd.prog 45 5).map (fun d => (d.type, d.offset)) = some (44, 5) := by kernel_rfl
theorem Tryd.ty_fo45_5 : ∃ d, fieldOf Tryd.prog 45 5 = some d ∧ d.type = 44 ∧ d.offset = 5 := fieldOf_some Tryd.ty_f45_5
theorem Tryd.ty_fa45_5 (x : AV) (rows : Nat → ARow) : aFieldAddr Tryd.prog 45 x 5 rows = fieldAddrA Tryd.prog 44 5 x rows := aFieldAddr_of Tryd.ty_fo45_5 x rows
theorem Tryd.ty_ff45_5 (x : AV) : aField Tryd.prog 45 x 5 = fieldA Tryd.prog 44 5 x := aField_of Tryd.ty_fo45_5 x
theorem Tryd.ty_bu45 (parts : List (Nat × AV)) : aBuild Tryd.prog 45 parts = (fillA (fun i => ([(0, 1), (1, 1), (2, 1), (3, 1), (4, 1), (5, 1)] : List (Nat × Nat))[i]?) [.int .i64 0, .int .i64 0, .int .i64 0, .int .i64 0, .bool false, .sl true []] parts).map .agg := aBuild_struct (by kernel_rfl) (by kernel_rfl)
theorem Tryd.ty_size46 : tsize Tryd.prog 46 = some 6 := by kernel_rfl
theorem Tryd.ty_bytes46 : tbytes Tryd.prog 46 = some 64 := by kernel_rfl
theorem Tryd.ty_agg46 : tagg Tryd.prog 46 = some true := by kernel_rfl
theorem Tryd.ty_zero46 : tzero Tryd.prog 46 = some (.agg [.int .i64 0, .int .i64 0, .int .i64 0, .int .i64 0, .bool false, .sl true []]) := by kernel_rfl
theorem Tryd.ty_sl46 : isSlice Tryd.prog 46 = false := by kernel_rfl
theorem Tryd.ty_b46 : isBool Tryd.prog 46 = false := by kernel_rfl
theorem Tryd.ty_f46_0 : (fieldOf Tryd.prog 46 0).map (fun d => (d.type, d.offset)) = some (3, 0) := by kernel_rfl
theorem Tryd.ty_fo46_0 : ∃ d, fieldOf Tryd.prog 46 0 = some d ∧ d.type = 3 ∧ d.offset = 0 := fieldOf_some Tryd.ty_f46_0
theorem Tryd.ty_fa46_0 (x : AV) (rows : Nat → ARow) : aFieldAddr Tryd.prog 46 x 0 rows = fieldAddrA Tryd.prog 3 0 x rows := aFieldAddr_of Tryd.ty_fo46_0 x rows
theorem Tryd.ty_ff46_0 (x : AV) : aField Tryd.prog 46 x 0 = fieldA Tryd.prog 3 0 x := aField_of Tryd.ty_fo46_0 x
theorem Tryd.ty_f46_1 : (fieldOf Tryd.prog 46 1).map (fun d => (d.type, d.offset)) = some (3, 1) := by kernel_rfl
theorem Tryd.ty_fo46_1 : ∃ d, fieldOf Tryd.prog 46 1 = some d ∧ d.type = 3 ∧ d.offset = 1 := fieldOf_some Tryd.ty_f46_1
theorem Tryd.ty_fa46_1 (x : AV) (rows : Nat → ARow) : aFieldAddr Tryd.prog 46 x 1 rows = fieldAddrA Tryd.prog 3 1 x rows := aFieldAddr_of Tryd.ty_fo46_1 x rows
theorem Tryd.ty_ff46_1 (x : AV) : aField Tryd.prog 46 x 1 = fieldA Tryd.prog 3 1 x := aField_of Tryd.ty_fo46_1 x
theorem Tryd.ty_f46_2 : (fieldOf Tryd.prog 46 2).map (fun d => (d.type, d.offset)) = some (3, 2) := by kernel_rfl
theorem Tryd.ty_fo46_2 : ∃ d, fieldOf Tryd.prog 46 2 = some d ∧ d.type = 3 ∧ d.offset = 2 := fieldOf_some Tryd.ty_f46_2
theorem Tryd.ty_fa46_2 (x : AV) (rows : Nat → ARow) : aFieldAddr Tryd.prog 46 x 2 rows = fieldAddrA Tryd.prog 3 2 x rows := aFieldAddr_of Tryd.ty_fo46_2 x rows
theorem Tryd.ty_ff46_2 (x : AV) : aField Tryd.prog 46 x 2 = fieldA Tryd.prog 3 2 x := aField_of Tryd.ty_fo46_2 x
theorem Tryd.ty_f46_3 : (fieldOf Tryd.prog 46 3).map (fun d => (d.type, d.offset)) = some (3, 3) := by kernel_rfl
theorem Tryd.ty_fo46_3 : ∃ d, fieldOf Tryd.prog 46 3 = some d ∧ d.type = 3 ∧ d.offset = 3 := fieldOf_some Tryd.ty_f46_3
theorem Tryd.ty_fa46_3 (x : AV) (rows : Nat → ARow) : aFieldAddr Tryd.prog 46 x 3 rows = fieldAddrA Tryd.prog 3 3 x rows := aFieldAddr_of Tryd.ty_fo46_3 x rows
theorem Tryd.ty_ff46_3 (x : AV) : aField Tryd.prog 46 x 3 = fieldA Tryd.prog 3 3 x := aField_of Tryd.ty_fo46_3 x
theorem Tryd.ty_f46_4 : (fieldOf Tryd.prog 46 4).map (fun d => (d.type, d.offset)) = some (4, 4) := by kernel_rfl
theorem Tryd.ty_fo46_4 : ∃ d, fieldOf Tryd.prog 46 4 = some d ∧ d.type = 4 ∧ d.offset = 4 := fieldOf_some Tryd.ty_f46_4
theorem Tryd.ty_fa46_4 (x : AV) (rows : Nat → ARow) : aFieldAddr Tryd.prog 46 x 4 rows = fieldAddrA Tryd.prog 4 4 x rows := aFieldAddr_of Tryd.ty_fo46_4 x rows
theorem Tryd.ty_ff46_4 (x : AV) : aField Tryd.prog 46 x 4 = fieldA Tryd.prog 4 4 x := aField_of Tryd.ty_fo46_4 x
theorem Tryd.ty_f46_5 : (fieldOf Tryd.prog 46 5).map (fun d => (d.type, d.offset)) = some (44, 5) := by kernel_rfl
theorem Tryd.ty_fo46_5 : ∃ d, fieldOf Tryd.prog 46 5 = some d ∧ d.type = 44 ∧ d.offset = 5 := fieldOf_some Tryd.ty_f46_5
theorem Tryd.ty_fa46_5 (x : AV) (rows : Nat → ARow) : aFieldAddr Tryd.prog 46 x 5 rows = fieldAddrA Tryd.prog 44 5 x rows := aFieldAddr_of Tryd.ty_fo46_5 x rows
theorem Tryd.ty_ff46_5 (x : AV) : aField Tryd.prog 46 x 5 = fieldA Tryd.prog 44 5 x := aField_of Tryd.ty_fo46_5 x
theorem Tryd.ty_bu46 (parts : List (Nat × AV)) : aBuild Tryd.prog 46 parts = (fillA (fun i => ([(0, 1), (1, 1), (2, 1), (3, 1), (4, 1), (5, 1)] : List (Nat × Nat))[i]?) [.int .i64 0, .int .i64 0, .int .i64 0, .int .i64 0, .bool false, .sl true []] parts).map .agg := aBuild_struct (by kernel_rfl) (by kernel_rfl)
theorem Tryd.ty_size51 : tsize Tryd.prog 51 = some 1 := by kernel_rfl
theorem Tryd.ty_agg51 : tagg Tryd.prog 51 = some false := by kernel_rfl
theorem Tryd.ty_zero51 : tzero Tryd.prog 51 = some .nilfn := by kernel_rfl
theorem Tryd.ty_size68 : tsize Tryd.prog 68 = some 1 := by kernel_rfl
theorem Tryd.ty_bytes68 : tbytes Tryd.prog 68 = some 8 := by kernel_rfl
theorem Tryd.ty_agg68 : tagg Tryd.prog 68 = some false := by kernel_rfl
theorem Tryd.ty_zero68 : tzero Tryd.prog 68 = some (.nilptr) := by kernel_rfl
theorem Tryd.ty_sl68 : isSlice Tryd.prog 68 = false := by kernel_rfl
theorem Tryd.ty_b68 : isBool Tryd.prog 68 = false := by kernel_rfl
theorem Tryd.ty_size69 : tsize Tryd.prog 69 = some 9 := by kernel_rfl
theorem Tryd.ty_bytes69 : tbytes Tryd.prog 69 = some 104 := by kernel_rfl
theorem Tryd.ty_agg69 : tagg Tryd.prog 69 = some true := by kernel_rfl
theorem Tryd.ty_zero69 : tzero Tryd.prog 69 = some (.agg [.sl true [], .int .i64 0, .int .i64 0, .int .i64 0, .int .i64 0, .int .i64 0, .sl true [], .int .i64 0, .bool false]) := by kernel_rfl
theorem Tryd.ty_sl69 : isSlice Tryd.prog 69 = false := by kernel_rfl
theorem Tryd.ty_b69 : isBool Tryd.prog 69 = false := by kernel_rfl
theorem Tryd.ty_f69_0 : (fieldOf Tryd.prog 69 0).map (fun d => (d.type, d.offset)) = some (22, 0) := by kernel_rfl
theorem Tryd.ty_fo69_0 : ∃ d, fieldOf Tryd.prog 69 0 = some d ∧ d.type = 22 ∧ d.offset = 0 := fieldOf_some Tryd.ty_f69_0
theorem Tryd.ty_fa69_0 (x : AV) (rows : Nat → ARow) : aFieldAddr Tryd.prog 69 x 0 rows = fieldAddrA Tryd.prog 22 0 x rows := aFieldAddr_of Tryd.ty_fo69_0 x rows
theorem Tryd.ty_ff69_0 (x : AV) : aField Tryd.prog 69 x 0 = fieldA Tryd.prog 22 0 x := aField_of Tryd.ty_fo69_0 x
theorem Tryd.ty_f69_1 : (fieldOf Tryd.prog 69 1).map (fun d => (d.type, d.offset)) = some (3, 1) := by kernel_rfl
theorem Tryd.ty_fo69_1 : ∃ d, fieldOf Tryd.prog 69 1 = some d ∧ d.type = 3 ∧ d.offset = 1 := fieldOf_some Tryd.ty_f69_1
theorem Tryd.ty_fa69_1 (x : AV) (rows : Nat → ARow) : aFieldAddr Tryd.prog 69 x 1 rows = fieldAddrA Tryd.prog 3 1 x rows := aFieldAddr_of Tryd.ty_fo69_1 x rows
theorem Tryd.ty_ff69_1 (x : AV) : aField Tryd.prog 69 x 1 = fieldA Tryd.prog 3 1 x := aField_of Tryd.ty_fo69_1 x
theorem Tryd.ty_f69_2 : (fieldOf Tryd.prog 69 2).map (fun d => (d.type, d.offset)) = some (3, 2) := by kernel_rfl
theorem Tryd.ty_fo69_2 : ∃ d, fieldOf Tryd.prog 69 2 = some d ∧ d.type = 3 ∧ d.offset = 2 := fieldOf_some Tryd.ty_f69_2
theorem Tryd.ty_fa69_2 (x : AV) (rows : Nat → ARow) : aFieldAddr Tryd.prog 69 x 2 rows = fieldAddrA Tryd.prog 3 2 x rows := aFieldAddr_of Tryd.ty_fo69_2 x rows
theorem Tryd.ty_ff69_2 (x : AV) : aField Tryd.prog 69 x 2 = fieldA Tryd.prog 3 2 x := aField_of Tryd.ty_fo69_2 x
theorem Tryd.ty_f69_3 : (fieldOf Tryd.prog 69 3).map (fun d => (d.type, d.offset)) = some (25, 3) := by kernel_rfl
theorem Tryd.ty_fo69_3 : ∃ d, fieldOf Tryd.prog 69 3 = some d ∧ d.type = 25 ∧ d.offset = 3 := fieldOf_some Tryd.ty_f69_3
theorem Tryd.ty_fa69_3 (x : AV) (rows : Nat → ARow) : aFieldAddr Tryd.prog 69 x 3 rows = fieldAddrA Tryd.prog 25 3 x rows := aFieldAddr_of Tryd.ty_fo69_3 x rows
theorem Tryd.ty_ff69_3 (x : AV) : aField Tryd.prog 69 x 3 = fieldA Tryd.prog 25 3 x := aField_of Tryd.ty_fo69_3 x
theorem Tryd.ty_f69_4 : (fieldOf Tryd.prog 69 4).map (fun d => (d.type, d.offset)) = some (3, 7) := by kernel_rfl
theorem Tryd.ty_fo69_4 : ∃ d, fieldOf Tryd.prog 69 4 = some d ∧ d.type = 3 ∧ d.offset = 7 := fieldOf_some Tryd.ty_f69_4
theorem Tryd.ty_fa69_4 (x : AV) (rows : Nat → ARow) : aFieldAddr Tryd.prog 69 x 4 rows = fieldAddrA Tryd.prog 3 7 x rows := aFieldAddr_of Tryd.ty_fo69_4 x rows
theorem Tryd.ty_ff69_4 (x : AV) : aField Tryd.prog 69 x 4 = fieldA Tryd.prog 3 7 x := aField_of Tryd.ty_fo69_4 x
theorem Tryd.ty_f69_5 : (fieldOf Tryd.prog 69 5).map (fun d => (d.type, d.offset)) = some (4, 8) := by kernel_rfl
theorem Tryd.ty_fo69_5 : ∃ d, fieldOf Tryd.prog 69 5 = some d ∧ d.type = 4 ∧ d.offset = 8 := fieldOf_some Tryd.ty_f69_5
theorem Tryd.ty_fa69_5 (x : AV) (rows : Nat → ARow) : aFieldAddr Tryd.prog 69 x 5 rows = fieldAddrA Tryd.prog 4 8 x rows := aFieldAddr_of Tryd.ty_fo69_5 x rows
theorem Tryd.ty_ff69_5 (x : AV) : aField Tryd.prog 69 x 5 = fieldA Tryd.prog 4 8 x := aField_of Tryd.ty_fo69_5 x
theorem Tryd.ty_bu69 (parts : List (Nat × AV)) : aBuild Tryd.prog 69 parts = (fillA (fun i => ([(0, 1), (1, 1), (2, 1), (3, 4), (7, 1), (8, 1)] : List (Nat × Nat))[i]?) [.sl true [], .int .i64 0, .int .i64 0, .int .i64 0, .int .i64 0, .int .i64 0, .sl true [], .int .i64 0, .bool false] parts).map .agg := aBuild_struct (by kernel_rfl) (by kernel_rfl)
theorem Tryd.ty_size70 : tsize Tryd.prog 70 = some 9 := by kernel_rfl
theorem Tryd.ty_bytes70 : tbytes Tryd.prog 70 = some 104 := by kernel_rfl
theorem Tryd.ty_agg70 : tagg Tryd.prog 70 = some true := by kernel_rfl
theorem Tryd.ty_zero70 : tzero Tryd.prog 70 = some (.agg [.sl true [], .int .i64 0, .int .i64 0, .int .i64 0, .int .i64 0, .int .i64 0, .sl true [], .int .i64 0, .bool false]) := by kernel_rfl
theorem Tryd.ty_sl70 : isSlice Tryd.prog 70 = false := by kernel_rfl
theorem Tryd.ty_b70 : isBool Tryd.prog 70 = false := by kernel_rfl
theorem Tryd.ty_f70_0 : (fieldOf Tryd.prog 70 0).map (fun d => (d.type, d.offset)) = some (22, 0) := by kernel_rfl
theorem Tryd.ty_fo70_0 : ∃ d, fieldOf Tryd.prog 70 0 = some d ∧ d.type = 22 ∧ d.offset = 0 := fieldOf_some Tryd.ty_f70_0
theorem Tryd.ty_fa70_0 (x : AV) (rows : Nat → ARow) : aFieldAddr Tryd.prog 70 x 0 rows = fieldAddrA Tryd.prog 22 0 x rows := aFieldAddr_of Tryd.ty_fo70_0 x rows
theorem Tryd.ty_ff70_0 (x : AV) : aField Tryd.prog 70 x 0 = fieldA Tryd.prog 22 0 x := aField_of Tryd.ty_fo70_0 x
theorem Tryd.ty_f70_1 : (fieldOf Tryd.prog 70 1).map (fun d => (d.type, d.offset)) = some (3, 1) := by kernel_rfl
theorem Tryd.ty_fo70_1 : ∃ d, fieldOf Tryd.prog 70 1 = some d ∧ d.type = 3 ∧ d.offset = 1 := fieldOf_some Tryd.ty_f70_1
theorem Tryd.ty_fa70_1 (x : AV) (rows : Nat → ARow) : aFieldAddr Tryd.prog 70 x 1 rows = fieldAddrA Tryd.prog 3 1 x rows := aFieldAddr_of Tryd.ty_fo70_1 x rows
theorem Tryd.ty_ff70_1 (x : AV) : aField Tryd.prog 70 x 1 = fieldA Tryd.prog 3 1 x := aField_of Tryd.ty_fo70_1 x
theorem Tryd.ty_f70_2 : (fieldOf Tryd.prog 70 2).map (fun d => (d.type, d.offset)) = some (3, 2) := by kernel_rfl
theorem Tryd.ty_fo70_2 : ∃ d, fieldOf Tryd.prog 70 2 = some d ∧ d.type = 3 ∧ d.offset = 2 := fieldOf_some Tryd.ty_f70_2
theorem Tryd.ty_fa70_2 (x : AV) (rows : Nat → ARow) : aFieldAddr Tryd.prog 70 x 2 rows = fieldAddrA Tryd.prog 3 2 x rows := aFieldAddr_of Tryd.ty_fo70_2 x rows
theorem Tryd.ty_ff70_2 (x : AV) : aField Tryd.prog 70 x 2 = fieldA Tryd.prog 3 2 x := aField_of Tryd.ty_fo70_2 x
theorem Tryd.ty_f70_3 : (fieldOf Tryd.prog 70 3).map (fun d => (d.type, d.offset)) = some (25, 3) := by kernel_rfl
theorem Tryd.ty_fo70_3 : ∃ d, fieldOf Tryd.prog 70 3 = some d ∧ d.type = 25 ∧ d.offset = 3 := fieldOf_some Tryd.ty_f70_3
theorem Tryd.ty_fa70_3 (x : AV) (rows : Nat → ARow) : aFieldAddr Tryd.prog 70 x 3 rows = fieldAddrA Tryd.prog 25 3 x rows := aFieldAddr_of Tryd.ty_fo70_3 x rows
theorem Tryd.ty_ff70_3 (x : AV) : aField Tryd.prog 70 x 3 = fieldA Tryd.prog 25 3 x := aField_of Tryd.ty_fo70_3 x
theorem Tryd.ty_f70_4 : (fieldOf Tryd.prog 70 4).map (fun d => (d.type, d.offset)) = some (3, 7) := by kernel_rfl
theorem Tryd.ty_fo70_4 : ∃ d, fieldOf Tryd.prog 70 4 = some d ∧ d.type = 3 ∧ d.offset = 7 := fieldOf_some Tryd.ty_f70_4
theorem Tryd.ty_fa70_4 (x : AV) (rows : Nat → ARow) : aFieldAddr Tryd.prog 70 x 4 rows = fieldAddrA Tryd.prog 3 7 x rows := aFieldAddr_of Tryd.ty_fo70_4 x rows
theorem Tryd.ty_ff70_4 (x : AV) : aField Tryd.prog 70 x 4 = fieldA Tryd.prog 3 7 x := aField_of Tryd.ty_fo70_4 x
theorem Tryd.ty_f70_5 : (fieldOf Tryd.prog 70 5).map (fun d => (d.type, d.offset)) = some (4, 8) := by kernel_rfl
theorem Tryd.ty_fo70_5 : ∃ d, fieldOf Tryd.prog 70 5 = some d ∧ d.type = 4 ∧ d.offset = 8 := fieldOf_some Tryd.ty_f70_5
theorem Tryd.ty_fa70_5 (x : AV) (rows : Nat → ARow) : aFieldAddr Tryd.prog 70 x 5 rows = fieldAddrA Tryd.prog 4 8 x rows := aFieldAddr_of Tryd.ty_fo70_5 x rows
theorem Tryd.ty_ff70_5 (x : AV) : aField Tryd.prog 70 x 5 = fieldA Tryd.prog 4 8 x := aField_of Tryd.ty_fo70_5 x
theorem Tryd.ty_bu70 (parts : List (Nat × AV)) : aBuild Tryd.prog 70 parts = (fillA (fun i => ([(0, 1), (1, 1), (2, 1), (3, 4), (7, 1), (8, 1)] : List (Nat × Nat))[i]?) [.sl true [], .int .i64 0, .int .i64 0, .int .i64 0, .int .i64 0, .int .i64 0, .sl true [], .int .i64 0, .bool false] parts).map .agg := aBuild_struct (by kernel_rfl) (by kernel_rfl)
theorem Tryd.ty_size81 : tsize Tryd.prog 81 = some 1 := by kernel_rfl
theorem Tryd.ty_agg81 : tagg Tryd.prog 81 = some false := by kernel_rfl
theorem Tryd.ty_zero81 : tzero Tryd.prog 81 = some .nilfn := by kernel_rfl
theorem Tryd.ty_size95 : tsize Tryd.prog 95 = some 3 := by kernel_rfl
theorem Tryd.ty_bytes95 : tbytes Tryd.prog 95 = some 16 := by kernel_rfl
theorem Tryd.ty_agg95 : tagg Tryd.prog 95 = some true := by kernel_rfl
theorem Tryd.ty_zero95 : tzero Tryd.prog 95 = some (.agg [.nilfn, .bool false, .bool false]) := by kernel_rfl
theorem Tryd.ty_sl95 : isSlice Tryd.prog 95 = false := by kernel_rfl
theorem Tryd.ty_b95 : isBool Tryd.prog 95 = false := by kernel_rfl
theorem Tryd.ty_f95_0 : (fieldOf Tryd.prog 95 0).map (fun d => (d.type, d.offset)) = some (51, 0) := by kernel_rfl
theorem Tryd.ty_fo95_0 : ∃ d, fieldOf Tryd.prog 95 0 = some d ∧ d.type = 51 ∧ d.offset = 0 := fieldOf_some Tryd.ty_f95_0
theorem Tryd.ty_fa95_0 (x : AV) (rows : Nat → ARow) : aFieldAddr Tryd.prog 95 x 0 rows = fieldAddrA Tryd.prog 51 0 x rows := aFieldAddr_of Tryd.ty_fo95_0 x rows
theorem Tryd.ty_ff95_0 (x : AV) : aField Tryd.prog 95 x 0 = fieldA Tryd.prog 51 0 x := aField_of Tryd.ty_fo95_0 x
theorem Tryd.ty_f95_1 : (fieldOf Tryd.prog 95 1).map (fun d => (d.type, d.offset)) = some (4, 1) := by kernel_rfl
theorem Tryd.ty_fo95_1 : ∃ d, fieldOf Tryd.prog 95 1 = some d ∧ d.type = 4 ∧ d.offset = 1 := fieldOf_some Tryd.ty_f95_1
theorem Tryd.ty_fa95_1 (x : AV) (rows : Nat → ARow) : aFieldAddr Tryd.prog 95 x 1 rows = fieldAddrA Tryd.prog 4 1 x rows := aFieldAddr_of Tryd.ty_fo95_1 x rows
theorem Tryd.ty_ff95_1 (x : AV) : aField Tryd.prog 95 x 1 = fieldA Tryd.prog 4 1 x := aField_of Tryd.ty_fo95_1 x
theorem Tryd.ty_f95_2 : (fieldOf Tryd.prog 95 2).map (fun d => (d.type, d.offset)) = some (4, 2) := by kernel_rfl
theorem Tryd.ty_fo95_2 : ∃ d, fieldOf Tryd.prog 95 2 = some d ∧ d.type = 4 ∧ d.offset = 2 := fieldOf_some Tryd.ty_f95_2
theorem Tryd.ty_fa95_2 (x : AV) (rows : Nat → ARow) : aFieldAddr Tryd.prog 95 x 2 rows = fieldAddrA Tryd.prog 4 2 x rows := aFieldAddr_of Tryd.ty_fo95_2 x rows
theorem Tryd.ty_ff95_2 (x : AV) : aField Tryd.prog 95 x 2 = fieldA Tryd.prog 4 2 x := aField_of Tryd.ty_fo95_2 x
theorem Tryd.ty_bu95 (parts : List (Nat × AV)) : aBuild Tryd.prog 95 parts = (fillA (fun i => ([(0, 1), (1, 1), (2, 1)] : List (Nat × Nat))[i]?) [.nilfn, .bool false, .bool false] parts).map .agg := aBuild_struct (by kernel_rfl) (by kernel_rfl)
theorem Tryd.ty_size96 : tsize Tryd.prog 96 = some 3 := by kernel_rfl
theorem Tryd.ty_bytes96 : tbytes Tryd.prog 96 = some 16 := by kernel_rfl
theorem Tryd.ty_agg96 : tagg Tryd.prog 96 = some true := by kernel_rfl
theorem Tryd.ty_zero96 : tzero Tryd.prog 96 = some (.agg [.nilfn, .bool false, .bool false]) := by kernel_rfl
theorem Tryd.ty_sl96 : isSlice Tryd.prog 96 = false := by kernel_rfl
theorem Tryd.ty_b96 : isBool Tryd.prog 96 = false := by kernel_rfl
theorem Tryd.ty_f96_0 : (fieldOf Tryd.prog 96 0).map (fun d => (d.type, d.offset)) = some (51, 0) := by kernel_rfl
theorem Tryd.ty_fo96_0 : ∃ d, fieldOf Tryd.prog 96 0 = some d ∧ d.type = 51 ∧ d.offset = 0 := fieldOf_some Tryd.ty_f96_0
theorem Tryd.ty_fa96_0 (x : AV) (rows : Nat → ARow) : aFieldAddr Tryd.prog 96 x 0 rows = fieldAddrA Tryd.prog 51 0 x rows := aFieldAddr_of Tryd.ty_fo96_0 x rows
theorem Tryd.ty_ff96_0 (x : AV) : aField Tryd.prog 96 x 0 = fieldA Tryd.prog 51 0 x := aField_of Tryd.ty_fo96_0 x
theorem Tryd.ty_f96_1 : (fieldOf Tryd.prog 96 1).map (fun d => (d.type, d.offset)) = some (4, 1) := by kernel_rfl
theorem Tryd.ty_fo96_1 : ∃ d, fieldOf Tryd.prog 96 1 = some d ∧ d.type = 4 ∧ d.offset = 1 := fieldOf_some Tryd.ty_f96_1
theorem Tryd.ty_fa96_1 (x : AV) (rows : Nat → ARow) : aFieldAddr Tryd.prog 96 x 1 rows = fieldAddrA Tryd.prog 4 1 x rows := aFieldAddr_of Tryd.ty_fo96_1 x rows
theorem Tryd.ty_ff96_1 (x : AV) : aField Tryd.prog 96 x 1 = fieldA Tryd.prog 4 1 x := aField_of Tryd.ty_fo96_1 x
theorem Tryd.ty_f96_2 : (fieldOf Tryd.prog 96 2).map (fun d => (d.type, d.offset)) = some (4, 2) := by kernel_rfl
theorem Tryd.ty_fo96_2 : ∃ d, fieldOf Tryd.prog 96 2 = some d ∧ d.type = 4 ∧ d.offset = 2 := fieldOf_some Tryd.ty_f96_2
theorem Tryd.ty_fa96_2 (x : AV) (rows : Nat → ARow) : aFieldAddr Tryd.prog 96 x 2 rows = fieldAddrA Tryd.prog 4 2 x rows := aFieldAddr_of Tryd.ty_fo96_2 x rows
theorem Tryd.ty_ff96_2 (x : AV) : aField Tryd.prog 96 x 2 = fieldA Tryd.prog 4 2 x := aField_of Tryd.ty_fo96_2 x
theorem Tryd.ty_bu96 (parts : List (Nat × AV)) : aBuild Tryd.prog 96 parts = (fillA (fun i => ([(0, 1), (1, 1), (2, 1)] : List (Nat × Nat))[i]?) [.nilfn, .bool false, .bool false] parts).map .agg := aBuild_struct (by kernel_rfl) (by kernel_rfl)
theorem Tryd.ty_size97 : tsize Tryd.prog 97 = some 42 := by kernel_rfl
theorem Tryd.ty_bytes97 : tbytes Tryd.prog 97 = some 224 := by kernel_rfl
theorem Tryd.ty_agg97 : tagg Tryd.prog 97 = some true := by kernel_rfl
theorem Tryd.ty_zero97 : tzero Tryd.prog 97 = some (.agg [.nilfn, .bool false, .bool false, .nilfn, .bool false, .bool false, .nilfn, .bool false, .bool false, .nilfn, .bool false, .bool false, .nilfn, .bool false, .bool false, .nilfn, .bool false, .bool false, .nilfn, .bool false, .bool false, .nilfn, .bool false, .bool false, .nilfn, .bool false, .bool false, .nilfn, .bool false, .bool false, .nilfn, .bool false, .bool false, .nilfn, .bool false, .bool false, .nilfn, .bool false, .bool false, .nilfn, .bool false, .bool false]) := by kernel_rfl
theorem Tryd.ty_sl97 : isSlice Tryd.prog 97 = false := by kernel_rfl
theorem Tryd.ty_b97 : isBool Tryd.prog 97 = false := by kernel_rfl
theorem Tryd.ty_u97 : Tryd.prog.underlying 97 = some (.array 14 96) := by kernel_rfl
theorem Tryd.ty_bu97 (parts : List (Nat × AV)) : aBuild Tryd.prog 97 parts = (fillA (fun i => some (i * 3, 3)) [.nilfn, .bool false, .bool false, .nilfn, .bool false, .bool false, .nilfn, .bool false, .bool false, .nilfn, .bool false, .bool false, .nilfn, .bool false, .bool false, .nilfn, .bool false, .bool false, .nilfn, .bool false, .bool false, .nilfn, .bool false, .bool false, .nilfn, .bool false, .bool false, .nilfn, .bool false, .bool false, .nilfn, .bool false, .bool false, .nilfn, .bool false, .bool false, .nilfn, .bool false, .bool false, .nilfn, .bool false, .bool false] parts).map .agg := aBuild_array (n := 14) (e := 96) (by kernel_rfl) (by kernel_rfl) (by kernel_rfl)
theorem Tryd.ty_size133 : tsize Tryd.prog 133 = some 1 := by kernel_rfl
theorem Tryd.ty_bytes133 : tbytes Tryd.prog 133 = some 8 := by kernel_rfl
theorem Tryd.ty_agg133 : tagg Tryd.prog 133 = some false := by kernel_rfl
theorem Tryd.ty_zero133 : tzero Tryd.prog 133 = some (.int .u64 0) := by kernel_rfl
theorem Tryd.ty_sl133 : isSlice Tryd.prog 133 = false := by kernel_rfl
theorem Tryd.ty_b133 : isBool Tryd.prog 133 = false := by kernel_rfl
theorem Tryd.ty_u133 : Tryd.prog.underlying 133 = some (.int .u64) := by kernel_rfl
theorem tyS : type_of% ((And.intro (And.intro (And.intro (And.intro (And.intro (And.intro (And.intro Tryd.ty_size3 (And.intro Tryd.ty_bytes3 Tryd.ty_agg3)) (And.intro (And.intro Tryd.ty_zero3 Tryd.ty_sl3) (And.intro Tryd.ty_b3 Tryd.ty_u3))) (And.intro (And.intro (And.intro Tryd.ty_size4 Tryd.ty_bytes4) (And.intro Tryd.ty_agg4 Tryd.ty_zero4)) (And.intro (And.intro Tryd.ty_sl4 Tryd.ty_b4) (And.intro Tryd.ty_size22 Tryd.ty_bytes22)))) (And.intro (And.intro (And.intro Tryd.ty_agg22 (And.intro Tryd.ty_zero22 Tryd.ty_elem22)) (And.intro (And.intro Tryd.ty_sl22 Tryd.ty_ni22) (And.intro Tryd.ty_b22 Tryd.ty_u22))) (And.intro (And.intro (And.intro Tryd.ty_size23 Tryd.ty_bytes23) (And.intro Tryd.ty_agg23 Tryd.ty_zero23)) (And.intro (And.intro Tryd.ty_elem23 Tryd.ty_sl23) (And.intro Tryd.ty_ni23 Tryd.ty_b23))))) (And.intro (And.intro (And.intro (And.intro Tryd.ty_u23 (And.intro Tryd.ty_size24 Tryd.ty_bytes24)) (And.intro (And.intro Tryd.ty_agg24 Tryd.ty_zero24) (And.intro Tryd.ty_sl24 Tryd.ty_b24))) (And.intro (And.intro (And.intro Tryd.ty_fa24_0 Tryd.ty_ff24_0) (And.intro Tryd.ty_fa24_1 Tryd.ty_ff24_1)) (And.intro (And.intro Tryd.ty_fa24_2 Tryd.ty_ff24_2) (And.intro Tryd.ty_fa24_3 Tryd.ty_ff24_3)))) (And.intro (And.intro (And.intro Tryd.ty_bu24 (And.intro Tryd.ty_size25 Tryd.ty_bytes25)) (And.intro (And.intro Tryd.ty_agg25 Tryd.ty_zero25) (And.intro Tryd.ty_sl25 Tryd.ty_b25))) (And.intro (And.intro (And.intro Tryd.ty_fa25_0 Tryd.ty_ff25_0) (And.intro Tryd.ty_fa25_1 Tryd.ty_ff25_1)) (And.intro (And.intro Tryd.ty_fa25_2 Tryd.ty_ff25_2) (And.intro Tryd.ty_fa25_3 Tryd.ty_ff25_3)))))) (And.intro (And.intro (And.intro (And.intro (And.intro Tryd.ty_bu25 (And.intro Tryd.ty_size27 Tryd.ty_bytes27)) (And.intro (And.intro Tryd.ty_agg27 Tryd.ty_zero27) (And.intro Tryd.ty_elem27 Tryd.ty_sl27))) (And.intro (And.intro (And.intro Tryd.ty_ni27 Tryd.ty_b27) (And.intro Tryd.ty_u27 Tryd.ty_size32)) (And.intro (And.intro Tryd.ty_agg32 Tryd.ty_zero32) (And.intro Tryd.ty_size38 Tryd.ty_bytes38)))) (And.intro (And.intro (And.intro Tryd.ty_agg38 (And.intro Tryd.ty_zero38 Tryd.ty_sl38)) (And.intro (And.intro Tryd.ty_b38 Tryd.ty_size39) (And.intro Tryd.ty_bytes39 Tryd.ty_agg39))) (And.intro (And.intro (And.intro Tryd.ty_zero39 Tryd.ty_sl39) (And.intro Tryd.ty_b39 Tryd.ty_fa39_0)) (And.intro (And.intro Tryd.ty_ff39_0 Tryd.ty_fa39_1) (And.intro Tryd.ty_ff39_1 Tryd.ty_fa39_2))))) (And.intro (And.intro (And.intro (And.intro Tryd.ty_ff39_2 (And.intro Tryd.ty_bu39 Tryd.ty_size40)) (And.intro (And.intro Tryd.ty_bytes40 Tryd.ty_agg40) (And.intro Tryd.ty_zero40 Tryd.ty_sl40))) (And.intro (And.intro (And.intro Tryd.ty_b40 Tryd.ty_fa40_0) (And.intro Tryd.ty_ff40_0 Tryd.ty_fa40_1)) (And.intro (And.intro Tryd.ty_ff40_1 Tryd.ty_fa40_2) (And.intro Tryd.ty_ff40_2 Tryd.ty_bu40)))) (And.intro (And.intro (And.intro (And.intro Tryd.ty_size44 Tryd.ty_bytes44) (And.intro Tryd.ty_agg44 Tryd.ty_zero44)) (And.intro (And.intro Tryd.ty_elem44 Tryd.ty_sl44) (And.intro Tryd.ty_ni44 Tryd.ty_b44))) (And.intro (And.intro (And.intro Tryd.ty_u44 Tryd.ty_size45) (And.intro Tryd.ty_bytes45 Tryd.ty_agg45)) (And.intro (And.intro Tryd.ty_zero45 Tryd.ty_sl45) (And.intro Tryd.ty_b45 Tryd.ty_fa45_0))))))) (And.intro (And.intro (And.intro (And.intro (And.intro (And.intro Tryd.ty_ff45_0 (And.intro Tryd.ty_fa45_1 Tryd.ty_ff45_1)) (And.intro (And.intro Tryd.ty_fa45_2 Tryd.ty_ff45_2) (And.intro Tryd.ty_fa45_3 Tryd.ty_ff45_3))) (And.intro (And.intro (And.intro Tryd.ty_fa45_4 Tryd.ty_ff45_4) (And.intro Tryd.ty_fa45_5 Tryd.ty_ff45_5)) (And.intro (And.intro Tryd.ty_bu45 Tryd.ty_size46) (And.intro Tryd.ty_bytes46 Tryd.ty_agg46)))) (And.intro (And.intro (And.intro Tryd.ty_zero46 (And.intro Tryd.ty_sl46 Tryd.ty_b46)) (And.intro (And.intro Tryd.ty_fa46_0 Tryd.ty_ff46_0) (And.intro Tryd.ty_fa46_1 Tryd.ty_ff46_1))) (And.intro (And.intro (And.intro Tryd.ty_fa46_2 Tryd.ty_ff46_2) (And.intro Tryd.ty_fa46_3 Tryd.ty_ff46_3)) (And.intro (And.intro Tryd.ty_fa46_4 Tryd.ty_ff46_4) (And.intro Tryd.ty_fa46_5 Tryd.ty_ff46_5))))) (And.intro (And.intro (And.intro (And.intro Tryd.ty_bu46 (And.intro Tryd.ty_size51 Tryd.ty_agg51)) (And.intro (And.intro Tryd.ty_zero51 Tryd.ty_size68) (And.intro Tryd.ty_bytes68 Tryd.ty_agg68))) (And.intro (And.intro (And.intro Tryd.ty_zero68 Tryd.ty_sl68) (And.intro Tryd.ty_b68 Tryd.ty_size69)) (And.intro (And.intro Tryd.ty_bytes69 Tryd.ty_agg69) (And.intro Tryd.ty_zero69 Tryd.ty_sl69)))) (And.intro (And.intro (And.intro (And.intro Tryd.ty_b69 Tryd.ty_fa69_0) (And.intro Tryd.ty_ff69_0 Tryd.ty_fa69_1)) (And.intro (And.intro Tryd.ty_ff69_1 Tryd.ty_fa69_2) (And.intro Tryd.ty_ff69_2 Tryd.ty_fa69_3))) (And.intro (And.intro (And.intro Tryd.ty_ff69_3 Tryd.ty_fa69_4) (And.intro Tryd.ty_ff69_4 Tryd.ty_fa69_5)) (And.intro (And.intro Tryd.ty_ff69_5 Tryd.ty_bu69) (And.intro Tryd.ty_size70 Tryd.ty_bytes70)))))) (And.intro (And.intro (And.intro (And.intro (And.intro Tryd.ty_agg70 (And.intro Tryd.ty_zero70 Tryd.ty_sl70)) (And.intro (And.intro Tryd.ty_b70 Tryd.ty_fa70_0) (And.intro Tryd.ty_ff70_0 Tryd.ty_fa70_1))) (And.intro (And.intro (And.intro Tryd.ty_ff70_1 Tryd.ty_fa70_2) (And.intro Tryd.ty_ff70_2 Tryd.ty_fa70_3)) (And.intro (And.intro Tryd.ty_ff70_3 Tryd.ty_fa70_4) (And.intro Tryd.ty_ff70_4 Tryd.ty_fa70_5)))) (And.intro (And.intro (And.intro Tryd.ty_ff70_5 (And.intro Tryd.ty_bu70 Tryd.ty_size81)) (And.intro (And.intro Tryd.ty_agg81 Tryd.ty_zero81) (And.intro Tryd.ty_size95 Tryd.ty_bytes95))) (And.intro (And.intro (And.intro Tryd.ty_agg95 Tryd.ty_zero95) (And.intro Tryd.ty_sl95 Tryd.ty_b95)) (And.intro (And.intro Tryd.ty_fa95_0 Tryd.ty_ff95_0) (And.intro Tryd.ty_fa95_1 Tryd.ty_ff95_1))))) (And.intro (And.intro (And.intro (And.intro Tryd.ty_fa95_2 (And.intro Tryd.ty_ff95_2 Tryd.ty_bu95)) (And.intro (And.intro Tryd.ty_size96 Tryd.ty_bytes96) (And.intro Tryd.ty_agg96 Tryd.ty_zero96))) (And.intro (And.intro (And.intro Tryd.ty_sl96 Tryd.ty_b96) (And.intro Tryd.ty_fa96_0 Tryd.ty_ff96_0)) (And.intro (And.intro Tryd.ty_fa96_1 Tryd.ty_ff96_1) (And.intro Tryd.ty_fa96_2 Tryd.ty_ff96_2)))) (And.intro (And.intro (And.intro (And.intro Tryd.ty_bu96 Tryd.ty_size97) (And.intro Tryd.ty_bytes97 Tryd.ty_agg97)) (And.intro (And.intro Tryd.ty_zero97 Tryd.ty_sl97) (And.intro Tryd.ty_b97 Tryd.ty_u97))) (And.intro (And.intro (And.intro Tryd.ty_bu97 Tryd.ty_size133) (And.intro Tryd.ty_bytes133 Tryd.ty_agg133)) (And.intro (And.intro Tryd.ty_zero133 Tryd.ty_sl133) (And.intro Tryd.ty_b133 Tryd.ty_u133))))))))) := (And.intro (And.intro (And.intro (And.intro (And.intro (And.intro (And.intro Tryd.ty_size3 (And.intro Tryd.ty_bytes3 Tryd.ty_agg3)) (And.intro (And.intro Tryd.ty_zero3 Tryd.ty_sl3) (And.intro Tryd.ty_b3 Tryd.ty_u3))) (And.intro (And.intro (And.intro Tryd.ty_size4 Tryd.ty_bytes4) (And.intro Tryd.ty_agg4 Tryd.ty_zero4)) (And.intro (And.intro Tryd.ty_sl4 Tryd.ty_b4) (And.intro Tryd.ty_size22 Tryd.ty_bytes22)))) (And.intro (And.intro (And.intro Tryd.ty_agg22 (And.intro Tryd.ty_zero22 Tryd.ty_elem22)) (And.intro (And.intro Tryd.ty_sl22 Tryd.ty_ni22) (And.intro Tryd.ty_b22 Tryd.ty_u22))) (And.intro (And.intro (And.intro Tryd.ty_size23 Tryd.ty_bytes23) (And.intro Tryd.ty_agg23 Tryd.ty_zero23)) (And.intro (And.intro Tryd.ty_elem23 Tryd.ty_sl23) (And.intro Tryd.ty_ni23 Tryd.ty_b23))))) (And.intro (And.intro (And.intro (And.intro Tryd.ty_u23 (And.intro Tryd.ty_size24 Tryd.ty_bytes24)) (And.intro (And.intro Tryd.ty_agg24 Tryd.ty_zero24) (And.intro Tryd.ty_sl24 Tryd.ty_b24))) (And.intro (And.intro (And.intro Tryd.ty_fa24_0 Tryd.ty_ff24_0) (And.intro Tryd.ty_fa24_1 Tryd.ty_ff24_1)) (And.intro (And.intro Tryd.ty_fa24_2 Tryd.ty_ff24_2) (And.intro Tryd.ty_fa24_3 Tryd.ty_ff24_3)))) (And.intro (And.intro (And.intro Tryd.ty_bu24 (And.intro Tryd.ty_size25 Tryd.ty_bytes25)) (And.intro (And.intro Tryd.ty_agg25 Tryd.ty_zero25) (And.intro Tryd.ty_sl25 Tryd.ty_b25))) (And.intro (And.intro (And.intro Tryd.ty_fa25_0 Tryd.ty_ff25_0) (And.intro Tryd.ty_fa25_1 Tryd.ty_ff25_1)) (And.intro (And.intro Tryd.ty_fa25_2 Tryd.ty_ff25_2) (And.intro Tryd.ty_fa25_3 Tryd.ty_ff25_3)))))) (And.intro (And.intro (And.intro (And.intro (And.intro Tryd.ty_bu25 (And.intro Tryd.ty_size27 Tryd.ty_bytes27)) (And.intro (And.intro Tryd.ty_agg27 Tryd.ty_zero27) (And.intro Tryd.ty_elem27 Tryd.ty_sl27))) (And.intro (And.intro (And.intro Tryd.ty_ni27 Tryd.ty_b27) (And.intro Tryd.ty_u27 Tryd.ty_size32)) (And.intro (And.intro Tryd.ty_agg32 Tryd.ty_zero32) (And.intro Tryd.ty_size38 Tryd.ty_bytes38)))) (And.intro (And.intro (And.intro Tryd.ty_agg38 (And.intro Tryd.ty_zero38 Tryd.ty_sl38)) (And.intro (And.intro Tryd.ty_b38 Tryd.ty_size39) (And.intro Tryd.ty_bytes39 Tryd.ty_agg39))) (And.intro (And.intro (And.intro Tryd.ty_zero39 Tryd.ty_sl39) (And.intro Tryd.ty_b39 Tryd.ty_fa39_0)) (And.intro (And.intro Tryd.ty_ff39_0 Tryd.ty_fa39_1) (And.intro Tryd.ty_ff39_1 Tryd.ty_fa39_2))))) (And.intro (And.intro (And.intro (And.intro Tryd.ty_ff39_2 (And.intro Tryd.ty_bu39 Tryd.ty_size40)) (And.intro (And.intro Tryd.ty_bytes40 Tryd.ty_agg40) (And.intro Tryd.ty_zero40 Tryd.ty_sl40))) (And.intro (And.intro (And.intro Tryd.ty_b40 Tryd.ty_fa40_0) (And.intro Tryd.ty_ff40_0 Tryd.ty_fa40_1)) (And.intro (And.intro Tryd.ty_ff40_1 Tryd.ty_fa40_2) (And.intro Tryd.ty_ff40_2 Tryd.ty_bu40)))) (And.intro (And.intro (And.intro (And.intro Tryd.ty_size44 Tryd.ty_bytes44) (And.intro Tryd.ty_agg44 Tryd.ty_zero44)) (And.intro (And.intro Tryd.ty_elem44 Tryd.ty_sl44) (And.intro Tryd.ty_ni44 Tryd.ty_b44))) (And.intro (And.intro (And.intro Tryd.ty_u44 Tryd.ty_size45) (And.intro Tryd.ty_bytes45 Tryd.ty_agg45)) (And.intro (And.intro Tryd.ty_zero45 Tryd.ty_sl45) (And.intro Tryd.ty_b45 Tryd.ty_fa45_0))))))) (And.intro (And.intro (And.intro (And.intro (And.intro (And.intro Tryd.ty_ff45_0 (And.intro Tryd.ty_fa45_1 Tryd.ty_ff45_1)) (And.intro (And.intro Tryd.ty_fa45_2 Tryd.ty_ff45_2) (And.intro Tryd.ty_fa45_3 Tryd.ty_ff45_3))) (And.intro (And.intro (And.intro Tryd.ty_fa45_4 Tryd.ty_ff45_4) (And.intro Tryd.ty_fa45_5 Tryd.ty_ff45_5)) (And.intro (And.intro Tryd.ty_bu45 Tryd.ty_size46) (And.intro Tryd.ty_bytes46 Tryd.ty_agg46)))) (And.intro (And.intro (And.intro Tryd.ty_zero46 (And.intro Tryd.ty_sl46 Tryd.ty_b46)) (And.intro (And.intro Tryd.ty_fa46_0 Tryd.ty_ff46_0) (And.intro Tryd.ty_fa46_1 Tryd.ty_ff46_1))) (And.intro (And.intro (And.intro Tryd.ty_fa46_2 Tryd.ty_ff46_2) (And.intro Tryd.ty_fa46_3 Tryd.ty_ff46_3)) (And.intro (And.intro Tryd.ty_fa46_4 Tryd.ty_ff46_4) (And.intro Tryd.ty_fa46_5 Tryd.ty_ff46_5))))) (And.intro (And.intro (And.intro (And.intro Tryd.ty_bu46 (And.intro Tryd.ty_size51 Tryd.ty_agg51)) (And.intro (And.intro Tryd.ty_zero51 Tryd.ty_size68) (And.intro Tryd.ty_bytes68 Tryd.ty_agg68))) (And.intro (And.intro (And.intro Tryd.ty_zero68 Tryd.ty_sl68) (And.intro Tryd.ty_b68 Tryd.ty_size69)) (And.intro (And.intro Tryd.ty_bytes69 Tryd.ty_agg69) (And.intro Tryd.ty_zero69 Tryd.ty_sl69)))) (And.intro (And.intro (And.intro (And.intro Tryd.ty_b69 Tryd.ty_fa69_0) (And.intro Tryd.ty_ff69_0 Tryd.ty_fa69_1)) (And.intro (And.intro Tryd.ty_ff69_1 Tryd.ty_fa69_2) (And.intro Tryd.ty_ff69_2 Tryd.ty_fa69_3))) (And.intro (And.intro (And.intro Tryd.ty_ff69_3 Tryd.ty_fa69_4) (And.intro Tryd.ty_ff69_4 Tryd.ty_fa69_5)) (And.intro (And.intro Tryd.ty_ff69_5 Tryd.ty_bu69) (And.intro Tryd.ty_size70 Tryd.ty_bytes70)))))) (And.intro (And.intro (And.intro (And.intro (And.intro Tryd.ty_agg70 (And.intro Tryd.ty_zero70 Tryd.ty_sl70)) (And.intro (And.intro Tryd.ty_b70 Tryd.ty_fa70_0) (And.intro Tryd.ty_ff70_0 Tryd.ty_fa70_1))) (And.intro (And.intro (And.intro Tryd.ty_ff70_1 Tryd.ty_fa70_2) (And.intro Tryd.ty_ff70_2 Tryd.ty_fa70_3)) (And.intro (And.intro Tryd.ty_ff70_3 Tryd.ty_fa70_4) (And.intro Tryd.ty_ff70_4 Tryd.ty_fa70_5)))) (And.intro (And.intro (And.intro Tryd.ty_ff70_5 (And.intro Tryd.ty_bu70 Tryd.ty_size81)) (And.intro (And.intro Tryd.ty_agg81 Tryd.ty_zero81) (And.intro Tryd.ty_size95 Tryd.ty_bytes95))) (And.intro (And.intro (And.intro Tryd.ty_agg95 Tryd.ty_zero95) (And.intro Tryd.ty_sl95 Tryd.ty_b95)) (And.intro (And.intro Tryd.ty_fa95_0 Tryd.ty_ff95_0) (And.intro Tryd.ty_fa95_1 Tryd.ty_ff95_1))))) (And.intro (And.intro (And.intro (And.intro Tryd.ty_fa95_2 (And.intro Tryd.ty_ff95_2 Tryd.ty_bu95)) (And.intro (And.intro Tryd.ty_size96 Tryd.ty_bytes96) (And.intro Tryd.ty_agg96 Tryd.ty_zero96))) (And.intro (And.intro (And.intro Tryd.ty_sl96 Tryd.ty_b96) (And.intro Tryd.ty_fa96_0 Tryd.ty_ff96_0)) (And.intro (And.intro Tryd.ty_fa96_1 Tryd.ty_ff96_1) (And.intro Tryd.ty_fa96_2 Tryd.ty_ff96_2)))) (And.intro (And.intro (And.intro (And.intro Tryd.ty_bu96 Tryd.ty_size97) (And.intro Tryd.ty_bytes97 Tryd.ty_agg97)) (And.intro (And.intro Tryd.ty_zero97 Tryd.ty_sl97) (And.intro Tryd.ty_b97 Tryd.ty_u97))) (And.intro (And.intro (And.intro Tryd.ty_bu97 Tryd.ty_size133) (And.intro Tryd.ty_bytes133 Tryd.ty_agg133)) (And.intro (And.intro Tryd.ty_zero133 Tryd.ty_sl133) (And.intro Tryd.ty_b133 Tryd.ty_u133))))))))
end Go.Proofs.YtijakngaipdncaaDoor
