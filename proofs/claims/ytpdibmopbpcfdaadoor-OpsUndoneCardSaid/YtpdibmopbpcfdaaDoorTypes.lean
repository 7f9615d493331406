import Derived.Test.YtpdibmopbpcfdaaDoorRows
import Derived.Test.YtpdibmopbpcfdaaDoorAB
set_option linter.unusedVariables false
set_option maxRecDepth 100000
namespace Go.Proofs.YtpdibmopbpcfdaaDoor
open Go.AM
theorem Tryd.ty_size3 : tsize Tryd.prog 3 = some 1 := by kernel_rfl
theorem Tryd.ty_bytes3 : tbytes Tryd.prog 3 = some 8 := by kernel_rfl
theorem Tryd.ty_agg3 : tagg Tryd.prog 3 = some false := by kernel_rfl
theorem Tryd.ty_zero3 : tzero Tryd.prog 3 = some (.int .i64 0) := by kernel_rfl
theorem Tryd.ty_sl3 : isSlice Tryd.prog 3 = false := by kernel_rfl
theorem Tryd.ty_b3 : isBool Tryd.prog 3 = false := by kernel_rfl
theorem Tryd.ty_u3 : Tryd.prog.underlying 3 = some (.int .i64) := by kernel_rfl
theorem Tryd.ty_size4 : tsize Tryd.prog 4 = some 1 := by kernel_rfl
theorem Tryd.ty_bytes4 : tbytes Tryd.prog 4 = some 1 := by kernel_rfl
theorem Tryd.ty_agg4 : tagg Tryd.prog 4 = some false := by kernel_rfl
theorem Tryd.ty_zero4 : tzero Tryd.prog 4 = some (.bool false) := by kernel_rfl
theorem Tryd.ty_sl4 : isSlice Tryd.prog 4 = false := by kernel_rfl
theorem Tryd.ty_b4 : isBool Tryd.prog 4 = true := by kernel_rfl
theorem Tryd.ty_size22 : tsize Tryd.prog 22 = some 1 := by kernel_rfl
theorem Tryd.ty_bytes22 : tbytes Tryd.prog 22 = some 24 := by kernel_rfl
theorem Tryd.ty_agg22 : tagg Tryd.prog 22 = some false := by kernel_rfl
theorem Tryd.ty_zero22 : tzero Tryd.prog 22 = some (.sl true []) := by kernel_rfl
theorem Tryd.ty_elem22 : elemOf' Tryd.prog 22 = some 3 := by kernel_rfl
theorem Tryd.ty_sl22 : isSlice Tryd.prog 22 = true := by kernel_rfl
theorem Tryd.ty_ni22 : notInt Tryd.prog 22 = true := by kernel_rfl
theorem Tryd.ty_b22 : isBool Tryd.prog 22 = false := by kernel_rfl
theorem Tryd.ty_u22 : Tryd.prog.underlying 22 = some (.slice 3) := by kernel_rfl
theorem Tryd.ty_size24 : tsize Tryd.prog 24 = some 2 := by kernel_rfl
theorem Tryd.ty_bytes24 : tbytes Tryd.prog 24 = some 32 := by kernel_rfl
theorem Tryd.ty_agg24 : tagg Tryd.prog 24 = some true := by kernel_rfl
theorem Tryd.ty_zero24 : tzero Tryd.prog 24 = some (.agg [.sl true [], .int .i64 0]) := by kernel_rfl
theorem Tryd.ty_sl24 : isSlice Tryd.prog 24 = false := by kernel_rfl
theorem Tryd.ty_b24 : isBool Tryd.prog 24 = false := by kernel_rfl
theorem Tryd.ty_f24_0 : (fieldOf Tryd.prog 24 0).map (fun d => (d.type, d.offset)) = some (22, 0) := by kernel_rfl
theorem Tryd.ty_fo24_0 : ∃ d, fieldOf Tryd.prog 24 0 = some d ∧ d.type = 22 ∧ d.offset = 0 := fieldOf_some Tryd.ty_f24_0
theorem Tryd.ty_fa24_0 (x : AV) (rows : Nat → ARow) : aFieldAddr Tryd.prog 24 x 0 rows = fieldAddrA Tryd.prog 22 0 x rows := aFieldAddr_of Tryd.ty_fo24_0 x rows
theorem Tryd.ty_ff24_0 (x : AV) : aField Tryd.prog 24 x 0 = fieldA Tryd.prog 22 0 x := aField_of Tryd.ty_fo24_0 x
theorem Tryd.ty_f24_1 : (fieldOf Tryd.prog 24 1).map (fun d => (d.type, d.offset)) = some (3, 1) := by kernel_rfl
theorem Tryd.ty_fo24_1 : ∃ d, fieldOf Tryd.prog 24 1 = some d ∧ d.type = 3 ∧ d.offset = 1 := fieldOf_some Tryd.ty_f24_1
theorem Tryd.ty_fa24_1 (x : AV) (rows : Nat → ARow) : aFieldAddr Tryd.prog 24 x 1 rows = fieldAddrA Tryd.prog 3 1 x rows := aFieldAddr_of Tryd.ty_fo24_1 x rows
theorem Tryd.ty_ff24_1 (x : AV) : aField Tryd.prog 24 x 1 = fieldA Tryd.prog 3 1 x := aField_of Tryd.ty_fo24_1 x
theorem Tryd.ty_bu24 (parts : List (Nat × AV)) : aBuild Tryd.prog 24 parts = (fillA (fun i => ([(0, 1), (1, 1)] : List (Nat × Nat))[i]?) [.sl true [], .int .i64 0] parts).map .agg := aBuild_struct (by kernel_rfl) (by kernel_rfl)
theorem Tryd.ty_size25 : tsize Tryd.prog 25 = some 1 := by kernel_rfl
theorem Tryd.ty_bytes25 : tbytes Tryd.prog 25 = some 24 := by kernel_rfl
theorem Tryd.ty_agg25 : tagg Tryd.prog 25 = some false := by kernel_rfl
theorem Tryd.ty_zero25 : tzero Tryd.prog 25 = some (.sl true []) := by kernel_rfl
theorem Tryd.ty_elem25 : elemOf' Tryd.prog 25 = some 24 := by kernel_rfl
theorem Tryd.ty_sl25 : isSlice Tryd.prog 25 = true := by kernel_rfl
theorem Tryd.ty_ni25 : notInt Tryd.prog 25 = true := by kernel_rfl
theorem Tryd.ty_b25 : isBool Tryd.prog 25 = false := by kernel_rfl
theorem Tryd.ty_u25 : Tryd.prog.underlying 25 = some (.slice 24) := by kernel_rfl
theorem Tryd.ty_size27 : tsize Tryd.prog 27 = some 1 := by kernel_rfl
theorem Tryd.ty_bytes27 : tbytes Tryd.prog 27 = some 24 := by kernel_rfl
theorem Tryd.ty_agg27 : tagg Tryd.prog 27 = some false := by kernel_rfl
theorem Tryd.ty_zero27 : tzero Tryd.prog 27 = some (.sl true []) := by kernel_rfl
theorem Tryd.ty_elem27 : elemOf' Tryd.prog 27 = some 22 := by kernel_rfl
theorem Tryd.ty_sl27 : isSlice Tryd.prog 27 = true := by kernel_rfl
theorem Tryd.ty_ni27 : notInt Tryd.prog 27 = true := by kernel_rfl
theorem Tryd.ty_b27 : isBool Tryd.prog 27 = false := by kernel_rfl
theorem Tryd.ty_u27 : Tryd.prog.underlying 27 = some (.slice 22) := by kernel_rfl
theorem Tryd.ty_size29 : tsize Tryd.prog 29 = some 1 := by kernel_rfl
theorem Tryd.ty_bytes29 : tbytes Tryd.prog 29 = some 24 := by kernel_rfl
theorem Tryd.ty_agg29 : tagg Tryd.prog 29 = some false := by kernel_rfl
theorem Tryd.ty_zero29 : tzero Tryd.prog 29 = some (.sl true []) := by kernel_rfl
theorem Tryd.ty_elem29 : elemOf' Tryd.prog 29 = some 31 := by kernel_rfl
theorem Tryd.ty_sl29 : isSlice Tryd.prog 29 = true := by kernel_rfl
theorem Tryd.ty_ni29 : notInt Tryd.prog 29 = true := by kernel_rfl
theorem Tryd.ty_b29 : isBool Tryd.prog 29 = false := by kernel_rfl
theorem Tryd.ty_u29 : Tryd.prog.underlying 29 = some (.slice 31) := by kernel_rfl
theorem Tryd.ty_size31 : tsize Tryd.prog 31 = some 4 := by kernel_rfl
theorem Tryd.ty_bytes31 : tbytes Tryd.prog 31 = some 48 := by kernel_rfl
theorem Tryd.ty_agg31 : tagg Tryd.prog 31 = some true := by kernel_rfl
theorem Tryd.ty_zero31 : tzero Tryd.prog 31 = some (.agg [.int .i64 0, .int .i64 0, .int .i64 0, .sl true []]) := by kernel_rfl
theorem Tryd.ty_sl31 : isSlice Tryd.prog 31 = false := by kernel_rfl
theorem Tryd.ty_b31 : isBool Tryd.prog 31 = false := by kernel_rfl
theorem Tryd.ty_f31_0 : (fieldOf Tryd.prog 31 0).map (fun d => (d.type, d.offset)) = some (3, 0) := by kernel_rfl
theorem Tryd.ty_fo31_0 : ∃ d, fieldOf Tryd.prog 31 0 = some d ∧ d.type = 3 ∧ d.offset = 0 := fieldOf_some Tryd.ty_f31_0
theorem Tryd.ty_fa31_0 (x : AV) (rows : Nat → ARow) : aFieldAddr Tryd.prog 31 x 0 rows = fieldAddrA Tryd.prog 3 0 x rows := aFieldAddr_of Tryd.ty_fo31_0 x rows
theorem Tryd.ty_ff31_0 (x : AV) : aField Tryd.prog 31 x 0 = fieldA Tryd.prog 3 0 x := aField_of Tryd.ty_fo31_0 x
theorem Tryd.ty_f31_1 : (fieldOf Tryd.prog 31 1).map (fun d => (d.type, d.offset)) = some (3, 1) := by kernel_rfl
theorem Tryd.ty_fo31_1 : ∃ d, fieldOf Tryd.prog 31 1 = some d ∧ d.type = 3 ∧ d.offset = 1 := fieldOf_some Tryd.ty_f31_1
theorem Tryd.ty_fa31_1 (x : AV) (rows : Nat → ARow) : aFieldAddr Tryd.prog 31 x 1 rows = fieldAddrA Tryd.prog 3 1 x rows := aFieldAddr_of Tryd.ty_fo31_1 x rows
theorem Tryd.ty_ff31_1 (x : AV) : aField Tryd.prog 31 x 1 = fieldA Tryd.prog 3 1 x := aField_of Tryd.ty_fo31_1 x
theorem Tryd.ty_f31_2 : (fieldOf Tryd.prog 31 2).map (fun d => (d.type, d.offset)) = some (3, 2) := by kernel_rfl
theorem Tryd.ty_fo31_2 : ∃ d, fieldOf Tryd.prog 31 2 = some d ∧ d.type = 3 ∧ d.offset = 2 := fieldOf_some Tryd.ty_f31_2
theorem Tryd.ty_fa31_2 (x : AV) (rows : Nat → ARow) : aFieldAddr Tryd.prog 31 x 2 rows = fieldAddrA Tryd.prog 3 2 x rows := aFieldAddr_of Tryd.ty_fo31_2 x rows
theorem Tryd.ty_ff31_2 (x : AV) : aField Tryd.prog 31 x 2 = fieldA Tryd.prog 3 2 x := aField_of Tryd.ty_fo31_2 x
theorem Tryd.ty_f31_3 : (fieldOf Tryd.prog 31 3).map (fun d => (d.type, d.offset)) = some (29, 3) := by kernel_rfl
theorem Tryd.ty_fo31_3 : ∃ d, fieldOf Tryd.prog 31 3 = some d ∧ d.type = 29 ∧ d.offset = 3 := fieldOf_some Tryd.ty_f31_3
theorem Tryd.ty_fa31_3 (x : AV) (rows : Nat → ARow) : aFieldAddr Tryd.prog 31 x 3 rows = fieldAddrA Tryd.prog 29 3 x rows := aFieldAddr_of Tryd.ty_fo31_3 x rows
theorem Tryd.ty_ff31_3 (x : AV) : aField Tryd.prog 31 x 3 = fieldA Tryd.prog 29 3 x := aField_of Tryd.ty_fo31_3 x
theorem Tryd.ty_bu31 (parts : List (Nat × AV)) : aBuild Tryd.prog 31 parts = (fillA (fun i => ([(0, 1), (1, 1), (2, 1), (3, 1)] : List (Nat × Nat))[i]?) [.int .i64 0, .int .i64 0, .int .i64 0, .sl true []] parts).map .agg := aBuild_struct (by kernel_rfl) (by kernel_rfl)
theorem Tryd.ty_size35 : tsize Tryd.prog 35 = some 1 := by kernel_rfl
theorem Tryd.ty_bytes35 : tbytes Tryd.prog 35 = some 24 := by kernel_rfl
theorem Tryd.ty_agg35 : tagg Tryd.prog 35 = some false := by kernel_rfl
theorem Tryd.ty_zero35 : tzero Tryd.prog 35 = some (.sl true []) := by kernel_rfl
theorem Tryd.ty_elem35 : elemOf' Tryd.prog 35 = some 41 := by kernel_rfl
theorem Tryd.ty_sl35 : isSlice Tryd.prog 35 = true := by kernel_rfl
theorem Tryd.ty_ni35 : notInt Tryd.prog 35 = true := by kernel_rfl
theorem Tryd.ty_b35 : isBool Tryd.prog 35 = false := by kernel_rfl
theorem Tryd.ty_u35 : Tryd.prog.underlying 35 = some (.slice 41) := by kernel_rfl
theorem Tryd.ty_size41 : tsize Tryd.prog 41 = some 10 := by kernel_rfl
theorem Tryd.ty_bytes41 : tbytes Tryd.prog 41 = some 120 := by kernel_rfl
theorem Tryd.ty_agg41 : tagg Tryd.prog 41 = some true := by kernel_rfl
theorem Tryd.ty_zero41 : tzero Tryd.prog 41 = some (.agg [.str ByteArray.empty, .int .i64 0, .int .i64 0, .int .i64 0, .sl true [], .int .i64 0, .int .i64 0, .int .i64 0, .sl true [], .int .i64 0]) := by kernel_rfl
theorem Tryd.ty_sl41 : isSlice Tryd.prog 41 = false := by kernel_rfl
theorem Tryd.ty_b41 : isBool Tryd.prog 41 = false := by kernel_rfl
theorem Tryd.ty_f41_0 : (fieldOf Tryd.prog 41 0).map (fun d => (d.type, d.offset)) = some (9, 0) := by kernel_rfl
theorem Tryd.ty_fo41_0 : ∃ d, fieldOf Tryd.prog 41 0 = some d ∧ d.type = 9 ∧ d.offset = 0 := fieldOf_some Tryd.ty_f41_0
theorem Tryd.ty_fa41_0 (x : AV) (rows : Nat → ARow) : aFieldAddr Tryd.prog 41 x 0 rows = fieldAddrA Tryd.prog 9 0 x rows := aFieldAddr_of Tryd.ty_fo41_0 x rows
theorem Tryd.ty_ff41_0 (x : AV) : aField Tryd.prog 41 x 0 = fieldA Tryd.prog 9 0 x := aField_of Tryd.ty_fo41_0 x
theorem Tryd.ty_f41_1 : (fieldOf Tryd.prog 41 1).map (fun d => (d.type, d.offset)) = some (31, 1) := by kernel_rfl
theorem Tryd.ty_fo41_1 : ∃ d, fieldOf Tryd.prog 41 1 = some d ∧ d.type = 31 ∧ d.offset = 1 := fieldOf_some Tryd.ty_f41_1
theorem Tryd.ty_fa41_1 (x : AV) (rows : Nat → ARow) : aFieldAddr Tryd.prog 41 x 1 rows = fieldAddrA Tryd.prog 31 1 x rows := aFieldAddr_of Tryd.ty_fo41_1 x rows
theorem Tryd.ty_ff41_1 (x : AV) : aField Tryd.prog 41 x 1 = fieldA Tryd.prog 31 1 x := aField_of Tryd.ty_fo41_1 x
theorem Tryd.ty_f41_2 : (fieldOf Tryd.prog 41 2).map (fun d => (d.type, d.offset)) = some (31, 5) := by kernel_rfl
theorem Tryd.ty_fo41_2 : ∃ d, fieldOf Tryd.prog 41 2 = some d ∧ d.type = 31 ∧ d.offset = 5 := fieldOf_some Tryd.ty_f41_2
theorem Tryd.ty_fa41_2 (x : AV) (rows : Nat → ARow) : aFieldAddr Tryd.prog 41 x 2 rows = fieldAddrA Tryd.prog 31 5 x rows := aFieldAddr_of Tryd.ty_fo41_2 x rows
theorem Tryd.ty_ff41_2 (x : AV) : aField Tryd.prog 41 x 2 = fieldA Tryd.prog 31 5 x := aField_of Tryd.ty_fo41_2 x
theorem Tryd.ty_f41_3 : (fieldOf Tryd.prog 41 3).map (fun d => (d.type, d.offset)) = some (3, 9) := by kernel_rfl
theorem Tryd.ty_fo41_3 : ∃ d, fieldOf Tryd.prog 41 3 = some d ∧ d.type = 3 ∧ d.offset = 9 := fieldOf_some Tryd.ty_f41_3
theorem Tryd.ty_fa41_3 (x : AV) (rows : Nat → ARow) : aFieldAddr Tryd.prog 41 x 3 rows = fieldAddrA Tryd.prog 3 9 x rows := aFieldAddr_of Tryd.ty_fo41_3 x rows
theorem Tryd.ty_ff41_3 (x : AV) : aField Tryd.prog 41 x 3 = fieldA Tryd.prog 3 9 x := aField_of Tryd.ty_fo41_3 x
theorem Tryd.ty_bu41 (parts : List (Nat × AV)) : aBuild Tryd.prog 41 parts = (fillA (fun i => ([(0, 1), (1, 4), (5, 4), (9, 1)] : List (Nat × Nat))[i]?) [.str ByteArray.empty, .int .i64 0, .int .i64 0, .int .i64 0, .sl true [], .int .i64 0, .int .i64 0, .int .i64 0, .sl true [], .int .i64 0] parts).map .agg := aBuild_struct (by kernel_rfl) (by kernel_rfl)
theorem Tryd.ty_size43 : tsize Tryd.prog 43 = some 1 := by kernel_rfl
theorem Tryd.ty_agg43 : tagg Tryd.prog 43 = some false := by kernel_rfl
theorem Tryd.ty_zero43 : tzero Tryd.prog 43 = some .nilfn := by kernel_rfl
theorem Tryd.ty_size50 : tsize Tryd.prog 50 = some 1 := by kernel_rfl
theorem Tryd.ty_agg50 : tagg Tryd.prog 50 = some false := by kernel_rfl
theorem Tryd.ty_zero50 : tzero Tryd.prog 50 = some .nilfn := by kernel_rfl
theorem Tryd.ty_size58 : tsize Tryd.prog 58 = some 1 := by kernel_rfl
theorem Tryd.ty_agg58 : tagg Tryd.prog 58 = some false := by kernel_rfl
theorem Tryd.ty_zero58 : tzero Tryd.prog 58 = some .nilfn := by kernel_rfl
theorem Tryd.ty_size67 : tsize Tryd.prog 67 = some 1 := by kernel_rfl
theorem Tryd.ty_agg67 : tagg Tryd.prog 67 = some false := by kernel_rfl
theorem Tryd.ty_zero67 : tzero Tryd.prog 67 = some .nilfn := by kernel_rfl
theorem Tryd.ty_size70 : tsize Tryd.prog 70 = some 1 := by kernel_rfl
theorem Tryd.ty_bytes70 : tbytes Tryd.prog 70 = some 8 := by kernel_rfl
theorem Tryd.ty_agg70 : tagg Tryd.prog 70 = some false := by kernel_rfl
theorem Tryd.ty_zero70 : tzero Tryd.prog 70 = some (.mp [] []) := by kernel_rfl
theorem Tryd.ty_sl70 : isSlice Tryd.prog 70 = false := by kernel_rfl
theorem Tryd.ty_b70 : isBool Tryd.prog 70 = false := by kernel_rfl
theorem Tryd.ty_map70 : mapOf Tryd.prog 70 = some (3, 31, .int .i64) := by kernel_rfl
theorem Tryd.ty_u70 : Tryd.prog.underlying 70 = some (.map 3 31) := by kernel_rfl
theorem Tryd.ty_size75 : tsize Tryd.prog 75 = some 1 := by kernel_rfl
theorem Tryd.ty_agg75 : tagg Tryd.prog 75 = some false := by kernel_rfl
theorem Tryd.ty_zero75 : tzero Tryd.prog 75 = some .nilfn := by kernel_rfl
theorem Tryd.ty_size76 : tsize Tryd.prog 76 = some 1 := by kernel_rfl
theorem Tryd.ty_agg76 : tagg Tryd.prog 76 = some false := by kernel_rfl
theorem Tryd.ty_zero76 : tzero Tryd.prog 76 = some .nilfn := by kernel_rfl
theorem Tryd.ty_size77 : tsize Tryd.prog 77 = some 1 := by kernel_rfl
theorem Tryd.ty_bytes77 : tbytes Tryd.prog 77 = some 8 := by kernel_rfl
theorem Tryd.ty_agg77 : tagg Tryd.prog 77 = some false := by kernel_rfl
theorem Tryd.ty_zero77 : tzero Tryd.prog 77 = some (.nilptr) := by kernel_rfl
theorem Tryd.ty_sl77 : isSlice Tryd.prog 77 = false := by kernel_rfl
theorem Tryd.ty_b77 : isBool Tryd.prog 77 = false := by kernel_rfl
theorem Tryd.ty_size79 : tsize Tryd.prog 79 = some 9 := by kernel_rfl
theorem Tryd.ty_bytes79 : tbytes Tryd.prog 79 = some 104 := by kernel_rfl
theorem Tryd.ty_agg79 : tagg Tryd.prog 79 = some true := by kernel_rfl
theorem Tryd.ty_zero79 : tzero Tryd.prog 79 = some (.agg [.sl true [], .int .i64 0, .int .i64 0, .int .i64 0, .int .i64 0, .int .i64 0, .sl true [], .int .i64 0, .bool false]) := by kernel_rfl
theorem Tryd.ty_sl79 : isSlice Tryd.prog 79 = false := by kernel_rfl
theorem Tryd.ty_b79 : isBool Tryd.prog 79 = false := by kernel_rfl
theorem Tryd.ty_f79_0 : (fieldOf Tryd.prog 79 0).map (fun d => (d.type, d.offset)) = some (22, 0) := by kernel_rfl
theorem Tryd.ty_fo79_0 : ∃ d, fieldOf Tryd.prog 79 0 = some d ∧ d.type = 22 ∧ d.offset = 0 := fieldOf_some Tryd.ty_f79_0
theorem Tryd.ty_fa79_0 (x : AV) (rows : Nat → ARow) : aFieldAddr Tryd.prog 79 x 0 rows = fieldAddrA Tryd.prog 22 0 x rows := aFieldAddr_of Tryd.ty_fo79_0 x rows
theorem Tryd.ty_ff79_0 (x : AV) : aField Tryd.prog 79 x 0 = fieldA Tryd.prog 22 0 x := aField_of Tryd.ty_fo79_0 x
theorem Tryd.ty_f79_1 : (fieldOf Tryd.prog 79 1).map (fun d => (d.type, d.offset)) = some (3, 1) := by kernel_rfl
theorem Tryd.ty_fo79_1 : ∃ d, fieldOf Tryd.prog 79 1 = some d ∧ d.type = 3 ∧ d.offset = 1 := fieldOf_some Tryd.ty_f79_1
theorem Tryd.ty_fa79_1 (x : AV) (rows : Nat → ARow) : aFieldAddr Tryd.prog 79 x 1 rows = fieldAddrA Tryd.prog 3 1 x rows := aFieldAddr_of Tryd.ty_fo79_1 x rows
theorem Tryd.ty_ff79_1 (x : AV) : aField Tryd.prog 79 x 1 = fieldA Tryd.prog 3 1 x := aField_of Tryd.ty_fo79_1 x
theorem Tryd.ty_f79_2 : (fieldOf Tryd.prog 79 2).map (fun d => (d.type, d.offset)) = some (3, 2) := by kernel_rfl
theorem Tryd.ty_fo79_2 : ∃ d, fieldOf Tryd.prog 79 2 = some d ∧ d.type = 3 ∧ d.offset = 2 := fieldOf_some Tryd.ty_f79_2
theorem Tryd.ty_fa79_2 (x : AV) (rows : Nat → ARow) : aFieldAddr Tryd.prog 79 x 2 rows = fieldAddrA Tryd.prog 3 2 x rows := aFieldAddr_of Tryd.ty_fo79_2 x rows
theorem Tryd.ty_ff79_2 (x : AV) : aField Tryd.prog 79 x 2 = fieldA Tryd.prog 3 2 x := aField_of Tryd.ty_fo79_2 x
theorem Tryd.ty_f79_3 : (fieldOf Tryd.prog 79 3).map (fun d => (d.type, d.offset)) = some (31, 3) := by kernel_rfl
theorem Tryd.ty_fo79_3 : ∃ d, fieldOf Tryd.prog 79 3 = some d ∧ d.type = 31 ∧ d.offset = 3 := fieldOf_some Tryd.ty_f79_3
theorem Tryd.ty_fa79_3 (x : AV) (rows : Nat → ARow) : aFieldAddr Tryd.prog 79 x 3 rows = fieldAddrA Tryd.prog 31 3 x rows := aFieldAddr_of Tryd.ty_fo79_3 x rows
theorem Tryd.ty_ff79_3 (x : AV) : aField Tryd.prog 79 x 3 = fieldA Tryd.prog 31 3 x := aField_of Tryd.ty_fo79_3 x
theorem Tryd.ty_f79_4 : (fieldOf Tryd.prog 79 4).map (fun d => (d.type, d.offset)) = some (3, 7) := by kernel_rfl
theorem Tryd.ty_fo79_4 : ∃ d, fieldOf Tryd.prog 79 4 = some d ∧ d.type = 3 ∧ d.offset = 7 := fieldOf_some Tryd.ty_f79_4
theorem Tryd.ty_fa79_4 (x : AV) (rows : Nat → ARow) : aFieldAddr Tryd.prog 79 x 4 rows = fieldAddrA Tryd.prog 3 7 x rows := aFieldAddr_of Tryd.ty_fo79_4 x rows
theorem Tryd.ty_ff79_4 (x : AV) : aField Tryd.prog 79 x 4 = fieldA Tryd.prog 3 7 x := aField_of Tryd.ty_fo79_4 x
theorem Tryd.ty_f79_5 : (fieldOf Tryd.prog 79 5).map (fun d => (d.type, d.offset)) = some (4, 8) := by kernel_rfl
theorem Tryd.ty_fo79_5 : ∃ d, fieldOf Tryd.prog 79 5 = some d ∧ d.type = 4 ∧ d.offset = 8 := fieldOf_some Tryd.ty_f79_5
theorem Tryd.ty_fa79_5 (x : AV) (rows : Nat → ARow) : aFieldAddr Tryd.prog 79 x 5 rows = fieldAddrA Tryd.prog 4 8 x rows := aFieldAddr_of Tryd.ty_fo79_5 x rows
theorem Tryd.ty_ff79_5 (x : AV) : aField Tryd.prog 79 x 5 = fieldA Tryd.prog 4 8 x := aField_of Tryd.ty_fo79_5 x
theorem Tryd.ty_bu79 (parts : List (Nat × AV)) : aBuild Tryd.prog 79 parts = (fillA (fun i => ([(0, 1), (1, 1), (2, 1), (3, 4), (7, 1), (8, 1)] : List (Nat × Nat))[i]?) [.sl true [], .int .i64 0, .int .i64 0, .int .i64 0, .int .i64 0, .int .i64 0, .sl true [], .int .i64 0, .bool false] parts).map .agg := aBuild_struct (by kernel_rfl) (by kernel_rfl)
theorem tyS : type_of% ((And.intro (And.intro (And.intro (And.intro (And.intro (And.intro (And.intro Tryd.ty_size3 Tryd.ty_bytes3) (And.intro Tryd.ty_agg3 Tryd.ty_zero3)) (And.intro (And.intro Tryd.ty_sl3 Tryd.ty_b3) (And.intro Tryd.ty_u3 (And.intro Tryd.ty_size4 Tryd.ty_bytes4)))) (And.intro (And.intro (And.intro Tryd.ty_agg4 Tryd.ty_zero4) (And.intro Tryd.ty_sl4 Tryd.ty_b4)) (And.intro (And.intro Tryd.ty_size22 Tryd.ty_bytes22) (And.intro Tryd.ty_agg22 (And.intro Tryd.ty_zero22 Tryd.ty_elem22))))) (And.intro (And.intro (And.intro (And.intro Tryd.ty_sl22 Tryd.ty_ni22) (And.intro Tryd.ty_b22 Tryd.ty_u22)) (And.intro (And.intro Tryd.ty_size24 Tryd.ty_bytes24) (And.intro Tryd.ty_agg24 (And.intro Tryd.ty_zero24 Tryd.ty_sl24)))) (And.intro (And.intro (And.intro Tryd.ty_b24 Tryd.ty_fa24_0) (And.intro Tryd.ty_ff24_0 (And.intro Tryd.ty_fa24_1 Tryd.ty_ff24_1))) (And.intro (And.intro Tryd.ty_bu24 Tryd.ty_size25) (And.intro Tryd.ty_bytes25 (And.intro Tryd.ty_agg25 Tryd.ty_zero25)))))) (And.intro (And.intro (And.intro (And.intro (And.intro Tryd.ty_elem25 Tryd.ty_sl25) (And.intro Tryd.ty_ni25 Tryd.ty_b25)) (And.intro (And.intro Tryd.ty_u25 Tryd.ty_size27) (And.intro Tryd.ty_bytes27 (And.intro Tryd.ty_agg27 Tryd.ty_zero27)))) (And.intro (And.intro (And.intro Tryd.ty_elem27 Tryd.ty_sl27) (And.intro Tryd.ty_ni27 (And.intro Tryd.ty_b27 Tryd.ty_u27))) (And.intro (And.intro Tryd.ty_size29 Tryd.ty_bytes29) (And.intro Tryd.ty_agg29 (And.intro Tryd.ty_zero29 Tryd.ty_elem29))))) (And.intro (And.intro (And.intro (And.intro Tryd.ty_sl29 Tryd.ty_ni29) (And.intro Tryd.ty_b29 Tryd.ty_u29)) (And.intro (And.intro Tryd.ty_size31 Tryd.ty_bytes31) (And.intro Tryd.ty_agg31 (And.intro Tryd.ty_zero31 Tryd.ty_sl31)))) (And.intro (And.intro (And.intro Tryd.ty_b31 Tryd.ty_fa31_0) (And.intro Tryd.ty_ff31_0 (And.intro Tryd.ty_fa31_1 Tryd.ty_ff31_1))) (And.intro (And.intro Tryd.ty_fa31_2 Tryd.ty_ff31_2) (And.intro Tryd.ty_fa31_3 (And.intro Tryd.ty_ff31_3 Tryd.ty_bu31))))))) (And.intro (And.intro (And.intro (And.intro (And.intro (And.intro Tryd.ty_size35 Tryd.ty_bytes35) (And.intro Tryd.ty_agg35 Tryd.ty_zero35)) (And.intro (And.intro Tryd.ty_elem35 Tryd.ty_sl35) (And.intro Tryd.ty_ni35 (And.intro Tryd.ty_b35 Tryd.ty_u35)))) (And.intro (And.intro (And.intro Tryd.ty_size41 Tryd.ty_bytes41) (And.intro Tryd.ty_agg41 Tryd.ty_zero41)) (And.intro (And.intro Tryd.ty_sl41 Tryd.ty_b41) (And.intro Tryd.ty_fa41_0 (And.intro Tryd.ty_ff41_0 Tryd.ty_fa41_1))))) (And.intro (And.intro (And.intro (And.intro Tryd.ty_ff41_1 Tryd.ty_fa41_2) (And.intro Tryd.ty_ff41_2 Tryd.ty_fa41_3)) (And.intro (And.intro Tryd.ty_ff41_3 Tryd.ty_bu41) (And.intro Tryd.ty_size43 (And.intro Tryd.ty_agg43 Tryd.ty_zero43)))) (And.intro (And.intro (And.intro Tryd.ty_size50 Tryd.ty_agg50) (And.intro Tryd.ty_zero50 (And.intro Tryd.ty_size58 Tryd.ty_agg58))) (And.intro (And.intro Tryd.ty_zero58 Tryd.ty_size67) (And.intro Tryd.ty_agg67 (And.intro Tryd.ty_zero67 Tryd.ty_size70)))))) (And.intro (And.intro (And.intro (And.intro (And.intro Tryd.ty_bytes70 Tryd.ty_agg70) (And.intro Tryd.ty_zero70 Tryd.ty_sl70)) (And.intro (And.intro Tryd.ty_b70 Tryd.ty_map70) (And.intro Tryd.ty_u70 (And.intro Tryd.ty_size75 Tryd.ty_agg75)))) (And.intro (And.intro (And.intro Tryd.ty_zero75 Tryd.ty_size76) (And.intro Tryd.ty_agg76 (And.intro Tryd.ty_zero76 Tryd.ty_size77))) (And.intro (And.intro Tryd.ty_bytes77 Tryd.ty_agg77) (And.intro Tryd.ty_zero77 (And.intro Tryd.ty_sl77 Tryd.ty_b77))))) (And.intro (And.intro (And.intro (And.intro Tryd.ty_size79 Tryd.ty_bytes79) (And.intro Tryd.ty_agg79 Tryd.ty_zero79)) (And.intro (And.intro Tryd.ty_sl79 Tryd.ty_b79) (And.intro Tryd.ty_fa79_0 (And.intro Tryd.ty_ff79_0 Tryd.ty_fa79_1)))) (And.intro (And.intro (And.intro Tryd.ty_ff79_1 Tryd.ty_fa79_2) (And.intro Tryd.ty_ff79_2 (And.intro Tryd.ty_fa79_3 Tryd.ty_ff79_3))) (And.intro (And.intro Tryd.ty_fa79_4 Tryd.ty_ff79_4) (And.intro Tryd.ty_fa79_5 (And.intro Tryd.ty_ff79_5 Tryd.ty_bu79))))))))) := (And.intro (And.intro (And.intro (And.intro (And.intro (And.intro (And.intro Tryd.ty_size3 Tryd.ty_bytes3) (And.intro Tryd.ty_agg3 Tryd.ty_zero3)) (And.intro (And.intro Tryd.ty_sl3 Tryd.ty_b3) (And.intro Tryd.ty_u3 (And.intro Tryd.ty_size4 Tryd.ty_bytes4)))) (And.intro (And.intro (And.intro Tryd.ty_agg4 Tryd.ty_zero4) (And.intro Tryd.ty_sl4 Tryd.ty_b4)) (And.intro (And.intro Tryd.ty_size22 Tryd.ty_bytes22) (And.intro Tryd.ty_agg22 (And.intro Tryd.ty_zero22 Tryd.ty_elem22))))) (And.intro (And.intro (And.intro (And.intro Tryd.ty_sl22 Tryd.ty_ni22) (And.intro Tryd.ty_b22 Tryd.ty_u22)) (And.intro (And.intro Tryd.ty_size24 Tryd.ty_bytes24) (And.intro Tryd.ty_agg24 (And.intro Tryd.ty_zero24 Tryd.ty_sl24)))) (And.intro (And.intro (And.intro Tryd.ty_b24 Tryd.ty_fa24_0) (And.intro Tryd.ty_ff24_0 (And.intro Tryd.ty_fa24_1 Tryd.ty_ff24_1))) (And.intro (And.intro Tryd.ty_bu24 Tryd.ty_size25) (And.intro Tryd.ty_bytes25 (And.intro Tryd.ty_agg25 Tryd.ty_zero25)))))) (And.intro (And.intro (And.intro (And.intro (And.intro Tryd.ty_elem25 Tryd.ty_sl25) (And.intro Tryd.ty_ni25 Tryd.ty_b25)) (And.intro (And.intro Tryd.ty_u25 Tryd.ty_size27) (And.intro Tryd.ty_bytes27 (And.intro Tryd.ty_agg27 Tryd.ty_zero27)))) (And.intro (And.intro (And.intro Tryd.ty_elem27 Tryd.ty_sl27) (And.intro Tryd.ty_ni27 (And.intro Tryd.ty_b27 Tryd.ty_u27))) (And.intro (And.intro Tryd.ty_size29 Tryd.ty_bytes29) (And.intro Tryd.ty_agg29 (And.intro Tryd.ty_zero29 Tryd.ty_elem29))))) (And.intro (And.intro (And.intro (And.intro Tryd.ty_sl29 Tryd.ty_ni29) (And.intro Tryd.ty_b29 Tryd.ty_u29)) (And.intro (And.intro Tryd.ty_size31 Tryd.ty_bytes31) (And.intro Tryd.ty_agg31 (And.intro Tryd.ty_zero31 Tryd.ty_sl31)))) (And.intro (And.intro (And.intro Tryd.ty_b31 Tryd.ty_fa31_0) (And.intro Tryd.ty_ff31_0 (And.intro Tryd.ty_fa31_1 Tryd.ty_ff31_1))) (And.intro (And.intro Tryd.ty_fa31_2 Tryd.ty_ff31_2) (And.intro Tryd.ty_fa31_3 (And.intro Tryd.ty_ff31_3 Tryd.ty_bu31))))))) (And.intro (And.intro (And.intro (And.intro (And.intro (And.intro Tryd.ty_size35 Tryd.ty_bytes35) (And.intro Tryd.ty_agg35 Tryd.ty_zero35)) (And.intro (And.intro Tryd.ty_elem35 Tryd.ty_sl35) (And.intro Tryd.ty_ni35 (And.intro Tryd.ty_b35 Tryd.ty_u35)))) (And.intro (And.intro (And.intro Tryd.ty_size41 Tryd.ty_bytes41) (And.intro Tryd.ty_agg41 Tryd.ty_zero41)) (And.intro (And.intro Tryd.ty_sl41 Tryd.ty_b41) (And.intro Tryd.ty_fa41_0 (And.intro Tryd.ty_ff41_0 Tryd.ty_fa41_1))))) (And.intro (And.intro (And.intro (And.intro Tryd.ty_ff41_1 Tryd.ty_fa41_2) (And.intro Tryd.ty_ff41_2 Tryd.ty_fa41_3)) (And.intro (And.intro Tryd.ty_ff41_3 Tryd.ty_bu41) (And.intro Tryd.ty_size43 (And.intro Tryd.ty_agg43 Tryd.ty_zero43)))) (And.intro (And.intro (And.intro Tryd.ty_size50 Tryd.ty_agg50) (And.intro Tryd.ty_zero50 (And.intro Tryd.ty_size58 Tryd.ty_agg58))) (And.intro (And.intro Tryd.ty_zero58 Tryd.ty_size67) (And.intro Tryd.ty_agg67 (And.intro Tryd.ty_zero67 Tryd.ty_size70)))))) (And.intro (And.intro (And.intro (And.intro (And.intro Tryd.ty_bytes70 Tryd.ty_agg70) (And.intro Tryd.ty_zero70 Tryd.ty_sl70)) (And.intro (And.intro Tryd.ty_b70 Tryd.ty_map70) (And.intro Tryd.ty_u70 (And.intro Tryd.ty_size75 Tryd.ty_agg75)))) (And.intro (And.intro (And.intro Tryd.ty_zero75 Tryd.ty_size76) (And.intro Tryd.ty_agg76 (And.intro Tryd.ty_zero76 Tryd.ty_size77))) (And.intro (And.intro Tryd.ty_bytes77 Tryd.ty_agg77) (And.intro Tryd.ty_zero77 (And.intro Tryd.ty_sl77 Tryd.ty_b77))))) (And.intro (And.intro (And.intro (And.intro Tryd.ty_size79 Tryd.ty_bytes79) (And.intro Tryd.ty_agg79 Tryd.ty_zero79)) (And.intro (And.intro Tryd.ty_sl79 Tryd.ty_b79) (And.intro Tryd.ty_fa79_0 (And.intro Tryd.ty_ff79_0 Tryd.ty_fa79_1)))) (And.intro (And.intro (And.intro Tryd.ty_ff79_1 Tryd.ty_fa79_2) (And.intro Tryd.ty_ff79_2 (And.intro Tryd.ty_fa79_3 Tryd.ty_ff79_3))) (And.intro (And.intro Tryd.ty_fa79_4 Tryd.ty_ff79_4) (And.intro Tryd.ty_fa79_5 (And.intro Tryd.ty_ff79_5 Tryd.ty_bu79))))))))
end Go.Proofs.YtpdibmopbpcfdaaDoor
