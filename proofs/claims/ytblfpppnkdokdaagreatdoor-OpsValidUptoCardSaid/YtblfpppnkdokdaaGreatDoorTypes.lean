import Derived.Test.YtblfpppnkdokdaaGreatDoorRows
import Derived.Test.YtblfpppnkdokdaaGreatDoorAB
set_option linter.unusedVariables false
set_option maxRecDepth 100000
namespace Go.Proofs.YtblfpppnkdokdaaGreatDoor
open Go.AM
theorem ty1 : tsize Tryz.prog 3 = some 1 ∧
 tbytes Tryz.prog 3 = some 8 ∧
 tagg Tryz.prog 3 = some false ∧
 tzero Tryz.prog 3 = some (.int .i64 0) ∧
 isSlice Tryz.prog 3 = false ∧
 isBool Tryz.prog 3 = false ∧
 Tryz.prog.underlying 3 = some (.int .i64) ∧
 tsize Tryz.prog 4 = some 1 ∧
 tbytes Tryz.prog 4 = some 1 ∧
 tagg Tryz.prog 4 = some false ∧
 tzero Tryz.prog 4 = some (.bool false) ∧
 isSlice Tryz.prog 4 = false ∧
 isBool Tryz.prog 4 = true ∧
 tsize Tryz.prog 5 = some 1 ∧
 tbytes Tryz.prog 5 = some 1 ∧
 tagg Tryz.prog 5 = some false ∧
 tzero Tryz.prog 5 = some (.int .u8 0) ∧
 isSlice Tryz.prog 5 = false ∧
 isBool Tryz.prog 5 = false ∧
 Tryz.prog.underlying 5 = some (.int .u8) ∧
 tsize Tryz.prog 9 = some 1 ∧
 tbytes Tryz.prog 9 = some 16 ∧
 tagg Tryz.prog 9 = some false ∧
 tzero Tryz.prog 9 = some (.str ByteArray.empty) ∧
 isSlice Tryz.prog 9 = false ∧
 notInt Tryz.prog 9 = true ∧
 isBool Tryz.prog 9 = false ∧
 Tryz.prog.underlying 9 = some (.string) ∧
 tsize Tryz.prog 22 = some 1 ∧
 tbytes Tryz.prog 22 = some 24 ∧
 tagg Tryz.prog 22 = some false ∧
 tzero Tryz.prog 22 = some (.sl true []) := by and_intros <;> kernel_rfl
theorem ty2 : elemOf' Tryz.prog 22 = some 3 ∧
 isSlice Tryz.prog 22 = true ∧
 notInt Tryz.prog 22 = true ∧
 isBool Tryz.prog 22 = false ∧
 Tryz.prog.underlying 22 = some (.slice 3) ∧
 tsize Tryz.prog 23 = some 1 ∧
 tbytes Tryz.prog 23 = some 24 ∧
 tagg Tryz.prog 23 = some false ∧
 tzero Tryz.prog 23 = some (.sl true []) ∧
 elemOf' Tryz.prog 23 = some 25 ∧
 isSlice Tryz.prog 23 = true ∧
 notInt Tryz.prog 23 = true ∧
 isBool Tryz.prog 23 = false ∧
 Tryz.prog.underlying 23 = some (.slice 25) ∧
 tsize Tryz.prog 25 = some 4 ∧
 tbytes Tryz.prog 25 = some 48 ∧
 tagg Tryz.prog 25 = some true ∧
 tzero Tryz.prog 25 = some (.agg [.int .i64 0, .int .i64 0, .int .i64 0, .sl true []]) ∧
 isSlice Tryz.prog 25 = false ∧
 isBool Tryz.prog 25 = false ∧
 tsize Tryz.prog 27 = some 10 ∧
 tbytes Tryz.prog 27 = some 120 ∧
 tagg Tryz.prog 27 = some true ∧
 tzero Tryz.prog 27 = some (.agg [.str ByteArray.empty, .int .i64 0, .int .i64 0, .int .i64 0, .sl true [], .int .i64 0, .int .i64 0, .int .i64 0, .sl true [], .int .i64 0]) ∧
 isSlice Tryz.prog 27 = false ∧
 isBool Tryz.prog 27 = false ∧
 tsize Tryz.prog 57 = some 1 ∧
 tbytes Tryz.prog 57 = some 24 ∧
 tagg Tryz.prog 57 = some false ∧
 tzero Tryz.prog 57 = some (.sl true []) ∧
 elemOf' Tryz.prog 57 = some 9 ∧
 isSlice Tryz.prog 57 = true := by and_intros <;> kernel_rfl
theorem ty3 : notInt Tryz.prog 57 = true ∧
 isBool Tryz.prog 57 = false ∧
 Tryz.prog.underlying 57 = some (.slice 9) ∧
 tsize Tryz.prog 58 = some 1 ∧
 tbytes Tryz.prog 58 = some 24 ∧
 tagg Tryz.prog 58 = some false ∧
 tzero Tryz.prog 58 = some (.sl true []) ∧
 elemOf' Tryz.prog 58 = some 22 ∧
 isSlice Tryz.prog 58 = true ∧
 notInt Tryz.prog 58 = true ∧
 isBool Tryz.prog 58 = false ∧
 Tryz.prog.underlying 58 = some (.slice 22) ∧
 tsize Tryz.prog 63 = some 1 ∧
 tbytes Tryz.prog 63 = some 8 ∧
 tagg Tryz.prog 63 = some false ∧
 tzero Tryz.prog 63 = some (.nilptr) ∧
 isSlice Tryz.prog 63 = false ∧
 isBool Tryz.prog 63 = false ∧
 tsize Tryz.prog 65 = some 3 ∧
 tbytes Tryz.prog 65 = some 40 ∧
 tagg Tryz.prog 65 = some true ∧
 tzero Tryz.prog 65 = some (.agg [.sl true [], .int .i64 0, .int .i64 0]) ∧
 isSlice Tryz.prog 65 = false ∧
 isBool Tryz.prog 65 = false ∧
 tsize Tryz.prog 69 = some 1 ∧
 tbytes Tryz.prog 69 = some 8 ∧
 tagg Tryz.prog 69 = some false ∧
 tzero Tryz.prog 69 = some (.int .i64 0) ∧
 isSlice Tryz.prog 69 = false ∧
 isBool Tryz.prog 69 = false ∧
 Tryz.prog.underlying 69 = some (.int .i64) ∧
 tsize Tryz.prog 73 = some 8 := by and_intros <;> kernel_rfl
theorem ty4 : tbytes Tryz.prog 73 = some 8 ∧
 tagg Tryz.prog 73 = some true ∧
 tzero Tryz.prog 73 = some (.agg [.bool false, .bool false, .bool false, .bool false, .bool false, .bool false, .bool false, .bool false]) ∧
 isSlice Tryz.prog 73 = false ∧
 isBool Tryz.prog 73 = false ∧
 Tryz.prog.underlying 73 = some (.array 8 4) ∧
 tsize Tryz.prog 74 = some 1 ∧
 tagg Tryz.prog 74 = some false ∧
 tzero Tryz.prog 74 = some .nilfn ∧
 tsize Tryz.prog 76 = some 1 ∧
 tagg Tryz.prog 76 = some false ∧
 tzero Tryz.prog 76 = some .nilfn ∧
 tsize Tryz.prog 96 = some 1 ∧
 tbytes Tryz.prog 96 = some 8 ∧
 tagg Tryz.prog 96 = some false ∧
 tzero Tryz.prog 96 = some (.nilptr) ∧
 isSlice Tryz.prog 96 = false ∧
 isBool Tryz.prog 96 = false ∧
 tsize Tryz.prog 98 = some 9 ∧
 tbytes Tryz.prog 98 = some 104 ∧
 tagg Tryz.prog 98 = some true ∧
 tzero Tryz.prog 98 = some (.agg [.sl true [], .int .i64 0, .int .i64 0, .int .i64 0, .int .i64 0, .int .i64 0, .sl true [], .int .i64 0, .bool false]) ∧
 isSlice Tryz.prog 98 = false ∧
 isBool Tryz.prog 98 = false ∧
 tsize Tryz.prog 102 = some 256 ∧
 tbytes Tryz.prog 102 = some 256 ∧
 tagg Tryz.prog 102 = some true ∧
 tzero Tryz.prog 102 = some (.agg [.bool false, .bool false, .bool false, .bool false, .bool false, .bool false, .bool false, .bool false, .bool false, .bool false, .bool false, .bool false, .bool false, .bool false, .bool false, .bool false, .bool false, .bool false, .bool false, .bool false, .bool false, .bool false, .bool false, .bool false, .bool false, .bool false, .bool false, .bool false, .bool false, .bool false, .bool false, .bool false, .bool false, .bool false, .bool false, .bool false, .bool false, .bool false, .bool false, .bool false, .bool false, .bool false, .bool false, .bool false, .bool false, .bool false, .bool false, .bool false, .bool false, .bool false, .bool false, .bool false, .bool false, .bool false, .bool false, .bool false, .bool false, .bool false, .bool false, .bool false, .bool false, .bool false, .bool false, .bool false, .bool false, .bool false, .bool false, .bool false, .bool false, .bool false, .bool false, .bool false, .bool false, .bool false, .bool false, .bool false, .bool false, .bool false, .bool false, .bool false, .bool false, .bool false, .bool false, .bool false, .bool false, .bool false, .bool false, .bool false, .bool false, .bool false, .bool false, .bool false, .bool false, .bool false, .bool false, .bool false, .bool false, .bool false, .bool false, .bool false, .bool false, .bool false, .bool false, .bool false, .bool false, .bool false, .bool false, .bool false, .bool false, .bool false, .bool false, .bool false, .bool false, .bool false, .bool false, .bool false, .bool false, .bool false, .bool false, .bool false, .bool false, .bool false, .bool false, .bool false, .bool false, .bool false, .bool false, .bool false, .bool false, .bool false, .bool false, .bool false, .bool false, .bool false, .bool false, .bool false, .bool false, .bool false, .bool false, .bool false, .bool false, .bool false, .bool false, .bool false, .bool false, .bool false, .bool false, .bool false, .bool false, .bool false, .bool false, .bool false, .bool false, .bool false, .bool false, .bool false, .bool false, .bool false, .bool false, .bool false, .bool false, .bool false, .bool false, .bool false, .bool false, .bool false, .bool false, .bool false, .bool false, .bool false, .bool false, .bool false, .bool false, .bool false, .bool false, .bool false, .bool false, .bool false, .bool false, .bool false, .bool false, .bool false, .bool false, .bool false, .bool false, .bool false, .bool false, .bool false, .bool false, .bool false, .bool false, .bool false, .bool false, .bool false, .bool false, .bool false, .bool false, .bool false, .bool false, .bool false, .bool false, .bool false, .bool false, .bool false, .bool false, .bool false, .bool false, .bool false, .bool false, .bool false, .bool false, .bool false, .bool false, .bool false, .bool false, .bool false, .bool false, .bool false, .bool false, .bool false, .bool false, .bool false, .bool false, .bool false, .bool false, .bool false, .bool false, .bool false, .bool false, .bool false, .bool false, .bool false, .bool false, .bool false, .bool false, .bool false, .bool false, .bool false, .bool false, .bool false, .bool false, .bool false, .bool false, .bool false, .bool false, .bool false, .bool false, .bool false, .bool false, .bool false, .bool false, .bool false, .bool false, .bool false, .bool false, .bool false]) ∧
 isSlice Tryz.prog 102 = false ∧
 isBool Tryz.prog 102 = false ∧
 Tryz.prog.underlying 102 = some (.array 256 4) ∧
 tsize Tryz.prog 103 = some 256 := by and_intros <;> kernel_rfl
theorem ty5 : tbytes Tryz.prog 103 = some 256 ∧
 tagg Tryz.prog 103 = some true ∧
 tzero Tryz.prog 103 = some (.agg [.bool false, .bool false, .bool false, .bool false, .bool false, .bool false, .bool false, .bool false, .bool false, .bool false, .bool false, .bool false, .bool false, .bool false, .bool false, .bool false, .bool false, .bool false, .bool false, .bool false, .bool false, .bool false, .bool false, .bool false, .bool false, .bool false, .bool false, .bool false, .bool false, .bool false, .bool false, .bool false, .bool false, .bool false, .bool false, .bool false, .bool false, .bool false, .bool false, .bool false, .bool false, .bool false, .bool false, .bool false, .bool false, .bool false, .bool false, .bool false, .bool false, .bool false, .bool false, .bool false, .bool false, .bool false, .bool false, .bool false, .bool false, .bool false, .bool false, .bool false, .bool false, .bool false, .bool false, .bool false, .bool false, .bool false, .bool false, .bool false, .bool false, .bool false, .bool false, .bool false, .bool false, .bool false, .bool false, .bool false, .bool false, .bool false, .bool false, .bool false, .bool false, .bool false, .bool false, .bool false, .bool false, .bool false, .bool false, .bool false, .bool false, .bool false, .bool false, .bool false, .bool false, .bool false, .bool false, .bool false, .bool false, .bool false, .bool false, .bool false, .bool false, .bool false, .bool false, .bool false, .bool false, .bool false, .bool false, .bool false, .bool false, .bool false, .bool false, .bool false, .bool false, .bool false, .bool false, .bool false, .bool false, .bool false, .bool false, .bool false, .bool false, .bool false, .bool false, .bool false, .bool false, .bool false, .bool false, .bool false, .bool false, .bool false, .bool false, .bool false, .bool false, .bool false, .bool false, .bool false, .bool false, .bool false, .bool false, .bool false, .bool false, .bool false, .bool false, .bool false, .bool false, .bool false, .bool false, .bool false, .bool false, .bool false, .bool false, .bool false, .bool false, .bool false, .bool false, .bool false, .bool false, .bool false, .bool false, .bool false, .bool false, .bool false, .bool false, .bool false, .bool false, .bool false, .bool false, .bool false, .bool false, .bool false, .bool false, .bool false, .bool false, .bool false, .bool false, .bool false, .bool false, .bool false, .bool false, .bool false, .bool false, .bool false, .bool false, .bool false, .bool false, .bool false, .bool false, .bool false, .bool false, .bool false, .bool false, .bool false, .bool false, .bool false, .bool false, .bool false, .bool false, .bool false, .bool false, .bool false, .bool false, .bool false, .bool false, .bool false, .bool false, .bool false, .bool false, .bool false, .bool false, .bool false, .bool false, .bool false, .bool false, .bool false, .bool false, .bool false, .bool false, .bool false, .bool false, .bool false, .bool false, .bool false, .bool false, .bool false, .bool false, .bool false, .bool false, .bool false, .bool false, .bool false, .bool false, .bool false, .bool false, .bool false, .bool false, .bool false, .bool false, .bool false, .bool false, .bool false, .bool false, .bool false, .bool false, .bool false, .bool false, .bool false, .bool false, .bool false, .bool false, .bool false, .bool false, .bool false, .bool false, .bool false, .bool false, .bool false]) ∧
 isSlice Tryz.prog 103 = false ∧
 isBool Tryz.prog 103 = false ∧
 Tryz.prog.underlying 103 = some (.array 256 4) ∧
 tsize Tryz.prog 107 = some 1 ∧
 tbytes Tryz.prog 107 = some 8 ∧
 tagg Tryz.prog 107 = some false ∧
 tzero Tryz.prog 107 = some (.nilptr) ∧
 isSlice Tryz.prog 107 = false ∧
 isBool Tryz.prog 107 = false ∧
 tsize Tryz.prog 118 = some 1 ∧
 tagg Tryz.prog 118 = some false ∧
 tzero Tryz.prog 118 = some .nilfn ∧
 tsize Tryz.prog 119 = some 1 ∧
 tagg Tryz.prog 119 = some false ∧
 tzero Tryz.prog 119 = some .nilfn ∧
 tsize Tryz.prog 129 = some 1 ∧
 tagg Tryz.prog 129 = some false ∧
 tzero Tryz.prog 129 = some .nilfn ∧
 tsize Tryz.prog 130 = some 1 ∧
 tagg Tryz.prog 130 = some false ∧
 tzero Tryz.prog 130 = some .nilfn := by and_intros <;> kernel_rfl
theorem ty6 : (∀ x r, aFieldAddr Tryz.prog 25 x 0 r = fieldAddrA Tryz.prog 3 0 x r) ∧
 (∀ x r, aFieldAddr Tryz.prog 25 x 1 r = fieldAddrA Tryz.prog 3 1 x r) ∧
 (∀ x r, aFieldAddr Tryz.prog 25 x 2 r = fieldAddrA Tryz.prog 3 2 x r) ∧
 (∀ x r, aFieldAddr Tryz.prog 25 x 3 r = fieldAddrA Tryz.prog 23 3 x r) ∧
 (∀ x r, aFieldAddr Tryz.prog 27 x 0 r = fieldAddrA Tryz.prog 9 0 x r) ∧
 (∀ x r, aFieldAddr Tryz.prog 27 x 1 r = fieldAddrA Tryz.prog 25 1 x r) ∧
 (∀ x r, aFieldAddr Tryz.prog 27 x 2 r = fieldAddrA Tryz.prog 25 5 x r) ∧
 (∀ x r, aFieldAddr Tryz.prog 27 x 3 r = fieldAddrA Tryz.prog 3 9 x r) ∧
 (∀ x r, aFieldAddr Tryz.prog 65 x 0 r = fieldAddrA Tryz.prog 22 0 x r) ∧
 (∀ x r, aFieldAddr Tryz.prog 65 x 1 r = fieldAddrA Tryz.prog 3 1 x r) ∧
 (∀ x r, aFieldAddr Tryz.prog 65 x 2 r = fieldAddrA Tryz.prog 3 2 x r) ∧
 (∀ x r, aFieldAddr Tryz.prog 98 x 0 r = fieldAddrA Tryz.prog 22 0 x r) ∧
 (∀ x r, aFieldAddr Tryz.prog 98 x 1 r = fieldAddrA Tryz.prog 3 1 x r) ∧
 (∀ x r, aFieldAddr Tryz.prog 98 x 2 r = fieldAddrA Tryz.prog 3 2 x r) ∧
 (∀ x r, aFieldAddr Tryz.prog 98 x 3 r = fieldAddrA Tryz.prog 25 3 x r) ∧
 (∀ x r, aFieldAddr Tryz.prog 98 x 4 r = fieldAddrA Tryz.prog 3 7 x r) ∧
 (∀ x r, aFieldAddr Tryz.prog 98 x 5 r = fieldAddrA Tryz.prog 4 8 x r) := by and_intros <;> exact aFieldAddr_of (fieldOf_some (by kernel_rfl))
theorem ty7 : (∀ p, aBuild Tryz.prog 25 p = (fillA (fun i => ([(0, 1), (1, 1), (2, 1), (3, 1)] : List (Nat × Nat))[i]?) [.int .i64 0, .int .i64 0, .int .i64 0, .sl true []] p).map .agg) ∧
 (∀ p, aBuild Tryz.prog 27 p = (fillA (fun i => ([(0, 1), (1, 4), (5, 4), (9, 1)] : List (Nat × Nat))[i]?) [.str ByteArray.empty, .int .i64 0, .int .i64 0, .int .i64 0, .sl true [], .int .i64 0, .int .i64 0, .int .i64 0, .sl true [], .int .i64 0] p).map .agg) ∧
 (∀ p, aBuild Tryz.prog 65 p = (fillA (fun i => ([(0, 1), (1, 1), (2, 1)] : List (Nat × Nat))[i]?) [.sl true [], .int .i64 0, .int .i64 0] p).map .agg) ∧
 (∀ p, aBuild Tryz.prog 98 p = (fillA (fun i => ([(0, 1), (1, 1), (2, 1), (3, 4), (7, 1), (8, 1)] : List (Nat × Nat))[i]?) [.sl true [], .int .i64 0, .int .i64 0, .int .i64 0, .int .i64 0, .int .i64 0, .sl true [], .int .i64 0, .bool false] p).map .agg) := by and_intros <;> exact fun _ => aBuild_struct (by kernel_rfl) (by kernel_rfl)
theorem Tryz.ty_bu73 (parts : List (Nat × AV)) : aBuild Tryz.prog 73 parts = (fillA (fun i => some (i * 1, 1)) [.bool false, .bool false, .bool false, .bool false, .bool false, .bool false, .bool false, .bool false] parts).map .agg := aBuild_array (n := 8) (e := 4) (by kernel_rfl) (by kernel_rfl) (by kernel_rfl)
theorem tyS : type_of% (And.intro (And.intro (And.intro ty1 ty2) (And.intro ty3 ty4)) (And.intro (And.intro ty5 ty6) (And.intro ty7 Tryz.ty_bu73))) := (And.intro (And.intro (And.intro ty1 ty2) (And.intro ty3 ty4)) (And.intro (And.intro ty5 ty6) (And.intro ty7 Tryz.ty_bu73)))
end Go.Proofs.YtblfpppnkdokdaaGreatDoor
