import Derived.Test.YtiobgkecpekhgaaDoorRows
import Derived.Test.YtiobgkecpekhgaaDoorAB
set_option linter.unusedVariables false
set_option maxRecDepth 100000
namespace Go.Proofs.YtiobgkecpekhgaaDoor
open Go.AM
theorem ty1 : tsize Tryd.prog 3 = some 1 ∧
 tbytes Tryd.prog 3 = some 8 ∧
 tagg Tryd.prog 3 = some false ∧
 tzero Tryd.prog 3 = some (.int .i64 0) ∧
 isSlice Tryd.prog 3 = false ∧
 isBool Tryd.prog 3 = false ∧
 Tryd.prog.underlying 3 = some (.int .i64) ∧
 tsize Tryd.prog 4 = some 1 ∧
 tbytes Tryd.prog 4 = some 1 ∧
 tagg Tryd.prog 4 = some false ∧
 tzero Tryd.prog 4 = some (.bool false) ∧
 isSlice Tryd.prog 4 = false ∧
 isBool Tryd.prog 4 = true ∧
 tsize Tryd.prog 22 = some 1 ∧
 tbytes Tryd.prog 22 = some 24 ∧
 tagg Tryd.prog 22 = some false ∧
 tzero Tryd.prog 22 = some (.sl true []) ∧
 elemOf' Tryd.prog 22 = some 3 ∧
 isSlice Tryd.prog 22 = true ∧
 notInt Tryd.prog 22 = true ∧
 isBool Tryd.prog 22 = false ∧
 Tryd.prog.underlying 22 = some (.slice 3) ∧
 tsize Tryd.prog 23 = some 1 ∧
 tbytes Tryd.prog 23 = some 24 ∧
 tagg Tryd.prog 23 = some false ∧
 tzero Tryd.prog 23 = some (.sl true []) ∧
 elemOf' Tryd.prog 23 = some 25 ∧
 isSlice Tryd.prog 23 = true ∧
 notInt Tryd.prog 23 = true ∧
 isBool Tryd.prog 23 = false ∧
 Tryd.prog.underlying 23 = some (.slice 25) ∧
 tsize Tryd.prog 25 = some 4 := by and_intros <;> kernel_rfl
theorem ty2 : tbytes Tryd.prog 25 = some 48 ∧
 tagg Tryd.prog 25 = some true ∧
 tzero Tryd.prog 25 = some (.agg [.int .i64 0, .int .i64 0, .int .i64 0, .sl true []]) ∧
 isSlice Tryd.prog 25 = false ∧
 isBool Tryd.prog 25 = false ∧
 tsize Tryd.prog 27 = some 1 ∧
 tbytes Tryd.prog 27 = some 24 ∧
 tagg Tryd.prog 27 = some false ∧
 tzero Tryd.prog 27 = some (.sl true []) ∧
 elemOf' Tryd.prog 27 = some 22 ∧
 isSlice Tryd.prog 27 = true ∧
 notInt Tryd.prog 27 = true ∧
 isBool Tryd.prog 27 = false ∧
 Tryd.prog.underlying 27 = some (.slice 22) ∧
 tsize Tryd.prog 31 = some 1 ∧
 tagg Tryd.prog 31 = some false ∧
 tzero Tryd.prog 31 = some .nilfn ∧
 tsize Tryd.prog 40 = some 1 ∧
 tbytes Tryd.prog 40 = some 8 ∧
 tagg Tryd.prog 40 = some false ∧
 tzero Tryd.prog 40 = some (.nilptr) ∧
 isSlice Tryd.prog 40 = false ∧
 isBool Tryd.prog 40 = false ∧
 tsize Tryd.prog 42 = some 3 ∧
 tbytes Tryd.prog 42 = some 40 ∧
 tagg Tryd.prog 42 = some true ∧
 tzero Tryd.prog 42 = some (.agg [.sl true [], .int .i64 0, .int .i64 0]) ∧
 isSlice Tryd.prog 42 = false ∧
 isBool Tryd.prog 42 = false ∧
 tsize Tryd.prog 46 = some 1 ∧
 tbytes Tryd.prog 46 = some 8 ∧
 tagg Tryd.prog 46 = some false := by and_intros <;> kernel_rfl
theorem ty3 : tzero Tryd.prog 46 = some (.nilptr) ∧
 isSlice Tryd.prog 46 = false ∧
 isBool Tryd.prog 46 = false ∧
 tsize Tryd.prog 48 = some 3 ∧
 tbytes Tryd.prog 48 = some 40 ∧
 tagg Tryd.prog 48 = some true ∧
 tzero Tryd.prog 48 = some (.agg [.sl true [], .int .i64 0, .int .i64 0]) ∧
 isSlice Tryd.prog 48 = false ∧
 isBool Tryd.prog 48 = false ∧
 tsize Tryd.prog 49 = some 1 ∧
 tbytes Tryd.prog 49 = some 8 ∧
 tagg Tryd.prog 49 = some false ∧
 tzero Tryd.prog 49 = some (.int .i64 0) ∧
 isSlice Tryd.prog 49 = false ∧
 isBool Tryd.prog 49 = false ∧
 Tryd.prog.underlying 49 = some (.int .i64) ∧
 tsize Tryd.prog 53 = some 1 ∧
 tbytes Tryd.prog 53 = some 24 ∧
 tagg Tryd.prog 53 = some false ∧
 tzero Tryd.prog 53 = some (.sl true []) ∧
 elemOf' Tryd.prog 53 = some 55 ∧
 isSlice Tryd.prog 53 = true ∧
 notInt Tryd.prog 53 = true ∧
 isBool Tryd.prog 53 = false ∧
 Tryd.prog.underlying 53 = some (.slice 55) ∧
 tsize Tryd.prog 55 = some 6 ∧
 tbytes Tryd.prog 55 = some 64 ∧
 tagg Tryd.prog 55 = some true ∧
 tzero Tryd.prog 55 = some (.agg [.int .i64 0, .int .i64 0, .int .i64 0, .int .i64 0, .bool false, .sl true []]) ∧
 isSlice Tryd.prog 55 = false ∧
 isBool Tryd.prog 55 = false ∧
 tsize Tryd.prog 60 = some 1 := by and_intros <;> kernel_rfl
theorem ty4 : tbytes Tryd.prog 60 = some 24 ∧
 tagg Tryd.prog 60 = some false ∧
 tzero Tryd.prog 60 = some (.sl true []) ∧
 elemOf' Tryd.prog 60 = some 62 ∧
 isSlice Tryd.prog 60 = true ∧
 notInt Tryd.prog 60 = true ∧
 isBool Tryd.prog 60 = false ∧
 Tryd.prog.underlying 60 = some (.slice 62) ∧
 tsize Tryd.prog 62 = some 6 ∧
 tbytes Tryd.prog 62 = some 64 ∧
 tagg Tryd.prog 62 = some true ∧
 tzero Tryd.prog 62 = some (.agg [.int .i64 0, .int .i64 0, .int .i64 0, .int .i64 0, .bool false, .sl true []]) ∧
 isSlice Tryd.prog 62 = false ∧
 isBool Tryd.prog 62 = false ∧
 tsize Tryd.prog 65 = some 1 ∧
 tbytes Tryd.prog 65 = some 24 ∧
 tagg Tryd.prog 65 = some false ∧
 tzero Tryd.prog 65 = some (.sl true []) ∧
 elemOf' Tryd.prog 65 = some 73 ∧
 isSlice Tryd.prog 65 = true ∧
 notInt Tryd.prog 65 = true ∧
 isBool Tryd.prog 65 = false ∧
 Tryd.prog.underlying 65 = some (.slice 73) ∧
 tsize Tryd.prog 67 = some 2 ∧
 tbytes Tryd.prog 67 = some 32 ∧
 tagg Tryd.prog 67 = some true ∧
 tzero Tryd.prog 67 = some (.agg [.int .i64 0, .sl true []]) ∧
 isSlice Tryd.prog 67 = false ∧
 isBool Tryd.prog 67 = false ∧
 tsize Tryd.prog 71 = some 1 ∧
 tbytes Tryd.prog 71 = some 24 ∧
 tagg Tryd.prog 71 = some false := by and_intros <;> kernel_rfl
theorem ty5 : tzero Tryd.prog 71 = some (.sl true []) ∧
 elemOf' Tryd.prog 71 = some 77 ∧
 isSlice Tryd.prog 71 = true ∧
 notInt Tryd.prog 71 = true ∧
 isBool Tryd.prog 71 = false ∧
 Tryd.prog.underlying 71 = some (.slice 77) ∧
 tsize Tryd.prog 73 = some 4 ∧
 tbytes Tryd.prog 73 = some 64 ∧
 tagg Tryd.prog 73 = some true ∧
 tzero Tryd.prog 73 = some (.agg [.int .i64 0, .int .i64 0, .sl true [], .sl true []]) ∧
 isSlice Tryd.prog 73 = false ∧
 isBool Tryd.prog 73 = false ∧
 tsize Tryd.prog 77 = some 3 ∧
 tbytes Tryd.prog 77 = some 24 ∧
 tagg Tryd.prog 77 = some true ∧
 tzero Tryd.prog 77 = some (.agg [.int .i64 0, .int .i64 0, .int .i64 0]) ∧
 isSlice Tryd.prog 77 = false ∧
 isBool Tryd.prog 77 = false ∧
 tsize Tryd.prog 79 = some 1 ∧
 tbytes Tryd.prog 79 = some 8 ∧
 tagg Tryd.prog 79 = some false ∧
 tzero Tryd.prog 79 = some (.nilptr) ∧
 isSlice Tryd.prog 79 = false ∧
 isBool Tryd.prog 79 = false ∧
 tsize Tryd.prog 81 = some 9 ∧
 tbytes Tryd.prog 81 = some 104 ∧
 tagg Tryd.prog 81 = some true ∧
 tzero Tryd.prog 81 = some (.agg [.sl true [], .int .i64 0, .int .i64 0, .int .i64 0, .int .i64 0, .int .i64 0, .sl true [], .int .i64 0, .bool false]) ∧
 isSlice Tryd.prog 81 = false ∧
 isBool Tryd.prog 81 = false ∧
 tsize Tryd.prog 96 = some 1 ∧
 tagg Tryd.prog 96 = some false := by and_intros <;> kernel_rfl
theorem ty6 : tzero Tryd.prog 96 = some .nilfn ∧
 tsize Tryd.prog 111 = some 3 ∧
 tbytes Tryd.prog 111 = some 16 ∧
 tagg Tryd.prog 111 = some true ∧
 tzero Tryd.prog 111 = some (.agg [.nilfn, .bool false, .bool false]) ∧
 isSlice Tryd.prog 111 = false ∧
 isBool Tryd.prog 111 = false ∧
 tsize Tryd.prog 112 = some 42 ∧
 tbytes Tryd.prog 112 = some 224 ∧
 tagg Tryd.prog 112 = some true ∧
 tzero Tryd.prog 112 = some (.agg [.nilfn, .bool false, .bool false, .nilfn, .bool false, .bool false, .nilfn, .bool false, .bool false, .nilfn, .bool false, .bool false, .nilfn, .bool false, .bool false, .nilfn, .bool false, .bool false, .nilfn, .bool false, .bool false, .nilfn, .bool false, .bool false, .nilfn, .bool false, .bool false, .nilfn, .bool false, .bool false, .nilfn, .bool false, .bool false, .nilfn, .bool false, .bool false, .nilfn, .bool false, .bool false, .nilfn, .bool false, .bool false]) ∧
 isSlice Tryd.prog 112 = false ∧
 isBool Tryd.prog 112 = false ∧
 Tryd.prog.underlying 112 = some (.array 14 111) ∧
 tsize Tryd.prog 150 = some 1 ∧
 tbytes Tryd.prog 150 = some 8 ∧
 tagg Tryd.prog 150 = some false ∧
 tzero Tryd.prog 150 = some (.int .u64 0) ∧
 isSlice Tryd.prog 150 = false ∧
 isBool Tryd.prog 150 = false ∧
 Tryd.prog.underlying 150 = some (.int .u64) := by and_intros <;> kernel_rfl
theorem ty7 : (∀ x r, aFieldAddr Tryd.prog 25 x 0 r = fieldAddrA Tryd.prog 3 0 x r) ∧
 (∀ x r, aFieldAddr Tryd.prog 25 x 1 r = fieldAddrA Tryd.prog 3 1 x r) ∧
 (∀ x r, aFieldAddr Tryd.prog 25 x 2 r = fieldAddrA Tryd.prog 3 2 x r) ∧
 (∀ x r, aFieldAddr Tryd.prog 25 x 3 r = fieldAddrA Tryd.prog 23 3 x r) ∧
 (∀ x r, aFieldAddr Tryd.prog 42 x 0 r = fieldAddrA Tryd.prog 22 0 x r) ∧
 (∀ x r, aFieldAddr Tryd.prog 42 x 1 r = fieldAddrA Tryd.prog 3 1 x r) ∧
 (∀ x r, aFieldAddr Tryd.prog 42 x 2 r = fieldAddrA Tryd.prog 3 2 x r) ∧
 (∀ x r, aFieldAddr Tryd.prog 48 x 0 r = fieldAddrA Tryd.prog 22 0 x r) ∧
 (∀ x r, aFieldAddr Tryd.prog 48 x 1 r = fieldAddrA Tryd.prog 3 1 x r) ∧
 (∀ x r, aFieldAddr Tryd.prog 48 x 2 r = fieldAddrA Tryd.prog 3 2 x r) ∧
 (∀ x r, aFieldAddr Tryd.prog 55 x 0 r = fieldAddrA Tryd.prog 3 0 x r) ∧
 (∀ x r, aFieldAddr Tryd.prog 55 x 1 r = fieldAddrA Tryd.prog 3 1 x r) ∧
 (∀ x r, aFieldAddr Tryd.prog 55 x 2 r = fieldAddrA Tryd.prog 3 2 x r) ∧
 (∀ x r, aFieldAddr Tryd.prog 55 x 3 r = fieldAddrA Tryd.prog 3 3 x r) ∧
 (∀ x r, aFieldAddr Tryd.prog 55 x 4 r = fieldAddrA Tryd.prog 4 4 x r) ∧
 (∀ x r, aFieldAddr Tryd.prog 55 x 5 r = fieldAddrA Tryd.prog 53 5 x r) ∧
 (∀ x r, aFieldAddr Tryd.prog 62 x 0 r = fieldAddrA Tryd.prog 3 0 x r) ∧
 (∀ x r, aFieldAddr Tryd.prog 62 x 1 r = fieldAddrA Tryd.prog 3 1 x r) ∧
 (∀ x r, aFieldAddr Tryd.prog 62 x 2 r = fieldAddrA Tryd.prog 3 2 x r) ∧
 (∀ x r, aFieldAddr Tryd.prog 62 x 3 r = fieldAddrA Tryd.prog 3 3 x r) ∧
 (∀ x r, aFieldAddr Tryd.prog 62 x 4 r = fieldAddrA Tryd.prog 4 4 x r) ∧
 (∀ x r, aFieldAddr Tryd.prog 62 x 5 r = fieldAddrA Tryd.prog 60 5 x r) ∧
 (∀ x r, aFieldAddr Tryd.prog 67 x 0 r = fieldAddrA Tryd.prog 3 0 x r) ∧
 (∀ x r, aFieldAddr Tryd.prog 67 x 1 r = fieldAddrA Tryd.prog 65 1 x r) ∧
 (∀ x r, aFieldAddr Tryd.prog 73 x 0 r = fieldAddrA Tryd.prog 3 0 x r) ∧
 (∀ x r, aFieldAddr Tryd.prog 73 x 1 r = fieldAddrA Tryd.prog 3 1 x r) ∧
 (∀ x r, aFieldAddr Tryd.prog 73 x 2 r = fieldAddrA Tryd.prog 71 2 x r) ∧
 (∀ x r, aFieldAddr Tryd.prog 73 x 3 r = fieldAddrA Tryd.prog 22 3 x r) ∧
 (∀ x r, aFieldAddr Tryd.prog 77 x 0 r = fieldAddrA Tryd.prog 3 0 x r) ∧
 (∀ x r, aFieldAddr Tryd.prog 77 x 1 r = fieldAddrA Tryd.prog 3 1 x r) ∧
 (∀ x r, aFieldAddr Tryd.prog 77 x 2 r = fieldAddrA Tryd.prog 3 2 x r) ∧
 (∀ x r, aFieldAddr Tryd.prog 81 x 0 r = fieldAddrA Tryd.prog 22 0 x r) := by and_intros <;> exact aFieldAddr_of (fieldOf_some (by kernel_rfl))
theorem ty8 : (∀ x r, aFieldAddr Tryd.prog 81 x 1 r = fieldAddrA Tryd.prog 3 1 x r) ∧
 (∀ x r, aFieldAddr Tryd.prog 81 x 2 r = fieldAddrA Tryd.prog 3 2 x r) ∧
 (∀ x r, aFieldAddr Tryd.prog 81 x 3 r = fieldAddrA Tryd.prog 25 3 x r) ∧
 (∀ x r, aFieldAddr Tryd.prog 81 x 4 r = fieldAddrA Tryd.prog 3 7 x r) ∧
 (∀ x r, aFieldAddr Tryd.prog 81 x 5 r = fieldAddrA Tryd.prog 4 8 x r) ∧
 (∀ x r, aFieldAddr Tryd.prog 111 x 0 r = fieldAddrA Tryd.prog 31 0 x r) ∧
 (∀ x r, aFieldAddr Tryd.prog 111 x 1 r = fieldAddrA Tryd.prog 4 1 x r) ∧
 (∀ x r, aFieldAddr Tryd.prog 111 x 2 r = fieldAddrA Tryd.prog 4 2 x r) := by and_intros <;> exact aFieldAddr_of (fieldOf_some (by kernel_rfl))
theorem ty9 : (∀ p, aBuild Tryd.prog 25 p = (fillA (fun i => ([(0, 1), (1, 1), (2, 1), (3, 1)] : List (Nat × Nat))[i]?) [.int .i64 0, .int .i64 0, .int .i64 0, .sl true []] p).map .agg) ∧
 (∀ p, aBuild Tryd.prog 42 p = (fillA (fun i => ([(0, 1), (1, 1), (2, 1)] : List (Nat × Nat))[i]?) [.sl true [], .int .i64 0, .int .i64 0] p).map .agg) ∧
 (∀ p, aBuild Tryd.prog 48 p = (fillA (fun i => ([(0, 1), (1, 1), (2, 1)] : List (Nat × Nat))[i]?) [.sl true [], .int .i64 0, .int .i64 0] p).map .agg) ∧
 (∀ p, aBuild Tryd.prog 55 p = (fillA (fun i => ([(0, 1), (1, 1), (2, 1), (3, 1), (4, 1), (5, 1)] : List (Nat × Nat))[i]?) [.int .i64 0, .int .i64 0, .int .i64 0, .int .i64 0, .bool false, .sl true []] p).map .agg) ∧
 (∀ p, aBuild Tryd.prog 62 p = (fillA (fun i => ([(0, 1), (1, 1), (2, 1), (3, 1), (4, 1), (5, 1)] : List (Nat × Nat))[i]?) [.int .i64 0, .int .i64 0, .int .i64 0, .int .i64 0, .bool false, .sl true []] p).map .agg) ∧
 (∀ p, aBuild Tryd.prog 67 p = (fillA (fun i => ([(0, 1), (1, 1)] : List (Nat × Nat))[i]?) [.int .i64 0, .sl true []] p).map .agg) ∧
 (∀ p, aBuild Tryd.prog 73 p = (fillA (fun i => ([(0, 1), (1, 1), (2, 1), (3, 1)] : List (Nat × Nat))[i]?) [.int .i64 0, .int .i64 0, .sl true [], .sl true []] p).map .agg) ∧
 (∀ p, aBuild Tryd.prog 77 p = (fillA (fun i => ([(0, 1), (1, 1), (2, 1)] : List (Nat × Nat))[i]?) [.int .i64 0, .int .i64 0, .int .i64 0] p).map .agg) ∧
 (∀ p, aBuild Tryd.prog 81 p = (fillA (fun i => ([(0, 1), (1, 1), (2, 1), (3, 4), (7, 1), (8, 1)] : List (Nat × Nat))[i]?) [.sl true [], .int .i64 0, .int .i64 0, .int .i64 0, .int .i64 0, .int .i64 0, .sl true [], .int .i64 0, .bool false] p).map .agg) ∧
 (∀ p, aBuild Tryd.prog 111 p = (fillA (fun i => ([(0, 1), (1, 1), (2, 1)] : List (Nat × Nat))[i]?) [.nilfn, .bool false, .bool false] p).map .agg) := by and_intros <;> exact fun _ => aBuild_struct (by kernel_rfl) (by kernel_rfl)
theorem Tryd.ty_bu112 (parts : List (Nat × AV)) : aBuild Tryd.prog 112 parts = (fillA (fun i => some (i * 3, 3)) [.nilfn, .bool false, .bool false, .nilfn, .bool false, .bool false, .nilfn, .bool false, .bool false, .nilfn, .bool false, .bool false, .nilfn, .bool false, .bool false, .nilfn, .bool false, .bool false, .nilfn, .bool false, .bool false, .nilfn, .bool false, .bool false, .nilfn, .bool false, .bool false, .nilfn, .bool false, .bool false, .nilfn, .bool false, .bool false, .nilfn, .bool false, .bool false, .nilfn, .bool false, .bool false, .nilfn, .bool false, .bool false] parts).map .agg := aBuild_array (n := 14) (e := 111) (by kernel_rfl) (by kernel_rfl) (by kernel_rfl)
theorem tyS : type_of% (And.intro (And.intro (And.intro ty1 ty2) (And.intro ty3 (And.intro ty4 ty5))) (And.intro (And.intro ty6 ty7) (And.intro ty8 (And.intro ty9 Tryd.ty_bu112)))) := (And.intro (And.intro (And.intro ty1 ty2) (And.intro ty3 (And.intro ty4 ty5))) (And.intro (And.intro ty6 ty7) (And.intro ty8 (And.intro ty9 Tryd.ty_bu112))))
end Go.Proofs.YtiobgkecpekhgaaDoor
