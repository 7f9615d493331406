/-
  NARROWER THAN 'FOR EVERY INPUT', by the rows' own cells (each row's printed sentence says how): CompileFolds: loops, laid.
  DERIVED. THE GIVEN ROWS OF THIS SEAT. 1 by the template 'for every input the law returns true; each argument reads behind the call as it read before'; 0 by the template 'total and deterministic' (their statements: YtiobgkecpekhgaaDoorTotals.lean).
  GIVEN WITH THE SEED: the statements are not yours to turn. If you find one false, say at which input.
  Laid BY PROGRAM, IN A SANDBOX (cutbox-rows.mjs): the forced cells as the released guide's own fill.sh prints them over the translation 0331e6c168968e8c… (all of the seat's roots in one cut). By AI agents, Wed Nov 11 2026. No macro, syntax, notation, axiom, sorry.
-/
import Derived.Test.YtiobgkecpekhgaaDoorChecked
import GoSem.Claim
import GoSem.ClaimJoined
import GoSem.ClaimMapViews
import Derived.JoinedTies
import Derived.KernelRfl
namespace Go.Proofs.YtiobgkecpekhgaaDoor
/- THE CELL 'sum', in the pinned program and in every row, IS THE sha256 OF THE DUMP (.gsa) THAT YtiobgkecpekhgaaDoorProg.lean LOADS. Nothing in Lean hashes anything: it is a label: what it is worth is what the hold of that sum in a sandbox is worth. -/
noncomputable def Tryd.pinned : Pinned := { name := "ytiobgkecpekhgaadoor", sum := "0331e6c168968e8caa3951fc397d96ad821322da6fd5924db74c07ee52ba81b6", checked := Tryd.checked }
namespace Rows
def none {H : Type} : Left H := { results := [], args := [] }

/- WHAT THE LISTED PACKAGE-LEVEL VARIABLES READ AS WHEN THE CALL BEGINS. Each datum BY PROGRAM (the guide's laid-datum.mjs) off the statement by which the dump's own 'gosem.cut.vars' lays the variable. In a bare row this is a premise. The card (YtiobgkecpekhgaaDoorCards.lean) ties it to the program's text. -/
def laid_scoria_word_operations {H : Type} : DataW H := .iface "func table" (.agg [.agg [.iface "func" (.lit (.string [115, 99, 111, 114, 105, 97, 47, 119, 111, 114, 100, 46, 111, 112, 101, 114, 97, 116, 105, 111, 110, 115, 36, 49])), .lit (.bool false), .lit (.bool false)], .agg [.iface "func" (.lit (.string [115, 99, 111, 114, 105, 97, 47, 119, 111, 114, 100, 46, 111, 112, 101, 114, 97, 116, 105, 111, 110, 115, 36, 50])), .lit (.bool false), .lit (.bool false)], .agg [.iface "func" (.lit (.string [115, 99, 111, 114, 105, 97, 47, 119, 111, 114, 100, 46, 111, 112, 101, 114, 97, 116, 105, 111, 110, 115, 36, 51])), .lit (.bool false), .lit (.bool false)], .agg [.iface "func" (.lit (.string [115, 99, 111, 114, 105, 97, 47, 119, 111, 114, 100, 46, 111, 112, 101, 114, 97, 116, 105, 111, 110, 115, 36, 52])), .lit (.bool true), .lit (.bool false)], .agg [.iface "func" (.lit (.string [115, 99, 111, 114, 105, 97, 47, 119, 111, 114, 100, 46, 111, 112, 101, 114, 97, 116, 105, 111, 110, 115, 36, 53])), .lit (.bool true), .lit (.bool false)], .agg [.iface "func" (.lit (.string [115, 99, 111, 114, 105, 97, 47, 119, 111, 114, 100, 46, 111, 112, 101, 114, 97, 116, 105, 111, 110, 115, 36, 54])), .lit (.bool false), .lit (.bool false)], .agg [.iface "func" (.lit (.string [115, 99, 111, 114, 105, 97, 47, 119, 111, 114, 100, 46, 111, 112, 101, 114, 97, 116, 105, 111, 110, 115, 36, 55])), .lit (.bool false), .lit (.bool false)], .agg [.iface "func" (.lit (.string [115, 99, 111, 114, 105, 97, 47, 119, 111, 114, 100, 46, 111, 112, 101, 114, 97, 116, 105, 111, 110, 115, 36, 56])), .lit (.bool false), .lit (.bool false)], .agg [.iface "func" (.lit (.string [115, 99, 111, 114, 105, 97, 47, 119, 111, 114, 100, 46, 111, 112, 101, 114, 97, 116, 105, 111, 110, 115, 36, 57])), .lit (.bool false), .lit (.bool false)], .agg [.iface "func" (.lit (.string [115, 99, 111, 114, 105, 97, 47, 119, 111, 114, 100, 46, 111, 112, 101, 114, 97, 116, 105, 111, 110, 115, 36, 49, 48])), .lit (.bool false), .lit (.bool false)], .agg [.iface "func" (.lit (.string [115, 99, 111, 114, 105, 97, 47, 119, 111, 114, 100, 46, 111, 112, 101, 114, 97, 116, 105, 111, 110, 115, 36, 49, 49])), .lit (.bool false), .lit (.bool true)], .agg [.iface "func" (.lit (.string [115, 99, 111, 114, 105, 97, 47, 119, 111, 114, 100, 46, 111, 112, 101, 114, 97, 116, 105, 111, 110, 115, 36, 49, 50])), .lit (.bool false), .lit (.bool true)], .agg [.iface "func" (.lit (.string [115, 99, 111, 114, 105, 97, 47, 119, 111, 114, 100, 46, 111, 112, 101, 114, 97, 116, 105, 111, 110, 115, 36, 49, 51])), .lit (.bool false), .lit (.bool true)], .agg [.iface "func" (.lit (.string [115, 99, 111, 114, 105, 97, 47, 119, 111, 114, 100, 46, 111, 112, 101, 114, 97, 116, 105, 111, 110, 115, 36, 49, 52])), .lit (.bool false), .lit (.bool true)]])
def laid_scoria_tree_shapes {H : Type} : DataW H := .agg [.agg [.lit (.int .i64 3), .lit (.int .i64 0), .lit (.int .i64 0), .lit (.int .i64 0), .nil, .lit (.int .i64 0), .lit (.int .i64 0), .lit (.int .i64 0)], .agg [.lit (.int .i64 3), .lit (.int .i64 0), .lit (.int .i64 0), .lit (.int .i64 0), .nil, .lit (.int .i64 0), .lit (.int .i64 0), .lit (.int .i64 0)], .agg [.lit (.int .i64 2), .lit (.int .i64 1), .lit (.int .i64 4), .lit (.int .i64 0), .nil, .lit (.int .i64 0), .lit (.int .i64 0), .lit (.int .i64 0)], .agg [.lit (.int .i64 2), .lit (.int .i64 0), .lit (.int .i64 0), .lit (.int .i64 0), .nil, .lit (.int .i64 3), .lit (.int .i64 1), .lit (.int .i64 3)], .agg [.lit (.int .i64 4), .lit (.int .i64 (-8)), .lit (.int .i64 7), .lit (.int .i64 0), .nil, .lit (.int .i64 0), .lit (.int .i64 0), .lit (.int .i64 0)], .agg [.lit (.int .i64 4), .lit (.int .i64 0), .lit (.int .i64 1), .lit (.int .i64 0), .nil, .lit (.int .i64 0), .lit (.int .i64 0), .lit (.int .i64 0)], .agg [.lit (.int .i64 4), .lit (.int .i64 0), .lit (.int .i64 5), .lit (.int .i64 0), .nil, .lit (.int .i64 0), .lit (.int .i64 0), .lit (.int .i64 0)], .agg [.lit (.int .i64 4), .lit (.int .i64 0), .lit (.int .i64 5), .lit (.int .i64 0), .slice [.lit (.int .i64 4)] [], .lit (.int .i64 0), .lit (.int .i64 0), .lit (.int .i64 0)], .agg [.lit (.int .i64 4), .lit (.int .i64 0), .lit (.int .i64 5), .lit (.int .i64 2), .nil, .lit (.int .i64 0), .lit (.int .i64 0), .lit (.int .i64 0)], .agg [.lit (.int .i64 4), .lit (.int .i64 0), .lit (.int .i64 13), .lit (.int .i64 0), .slice [.lit (.int .i64 4), .lit (.int .i64 4)] [], .lit (.int .i64 0), .lit (.int .i64 0), .lit (.int .i64 0)], .agg [.lit (.int .i64 4), .lit (.int .i64 0), .lit (.int .i64 0), .lit (.int .i64 0), .slice [.lit (.int .i64 4)] [], .lit (.int .i64 0), .lit (.int .i64 0), .lit (.int .i64 0)], .agg [.lit (.int .i64 4), .lit (.int .i64 0), .lit (.int .i64 5), .lit (.int .i64 0), .nil, .lit (.int .i64 3), .lit (.int .i64 0), .lit (.int .i64 4)], .agg [.lit (.int .i64 4), .lit (.int .i64 0), .lit (.int .i64 2), .lit (.int .i64 0), .nil, .lit (.int .i64 0), .lit (.int .i64 0), .lit (.int .i64 0)], .agg [.lit (.int .i64 6), .lit (.int .i64 0), .lit (.int .i64 0), .lit (.int .i64 0), .nil, .lit (.int .i64 8), .lit (.int .i64 0), .lit (.int .i64 5)], .agg [.lit (.int .i64 5), .lit (.int .i64 0), .lit (.int .i64 5), .lit (.int .i64 0), .slice [.lit (.int .i64 4)] [], .lit (.int .i64 0), .lit (.int .i64 0), .lit (.int .i64 0)], .agg [.lit (.int .i64 5), .lit (.int .i64 0), .lit (.int .i64 5), .lit (.int .i64 0), .slice [.lit (.int .i64 4), .lit (.int .i64 4)] [], .lit (.int .i64 0), .lit (.int .i64 0), .lit (.int .i64 0)], .agg [.lit (.int .i64 5), .lit (.int .i64 0), .lit (.int .i64 5), .lit (.int .i64 2), .slice [.lit (.int .i64 4)] [], .lit (.int .i64 0), .lit (.int .i64 0), .lit (.int .i64 0)], .agg [.lit (.int .i64 5), .lit (.int .i64 0), .lit (.int .i64 0), .lit (.int .i64 0), .slice [.lit (.int .i64 4), .lit (.int .i64 6), .lit (.int .i64 6)] [], .lit (.int .i64 0), .lit (.int .i64 0), .lit (.int .i64 0)], .agg [.lit (.int .i64 5), .lit (.int .i64 0), .lit (.int .i64 0), .lit (.int .i64 0), .slice [.lit (.int .i64 4), .lit (.int .i64 6)] [], .lit (.int .i64 0), .lit (.int .i64 0), .lit (.int .i64 0)], .agg [.lit (.int .i64 5), .lit (.int .i64 0), .lit (.int .i64 0), .lit (.int .i64 0), .slice [.lit (.int .i64 4)] [], .lit (.int .i64 0), .lit (.int .i64 0), .lit (.int .i64 0)], .agg [.lit (.int .i64 5), .lit (.int .i64 0), .lit (.int .i64 0), .lit (.int .i64 0), .slice [.lit (.int .i64 4)] [], .lit (.int .i64 0), .lit (.int .i64 0), .lit (.int .i64 0)], .agg [.lit (.int .i64 5), .lit (.int .i64 0), .lit (.int .i64 5), .lit (.int .i64 0), .slice [.lit (.int .i64 6), .lit (.int .i64 6)] [], .lit (.int .i64 0), .lit (.int .i64 0), .lit (.int .i64 0)], .agg [.lit (.int .i64 5), .lit (.int .i64 0), .lit (.int .i64 2), .lit (.int .i64 0), .slice [.lit (.int .i64 4)] [], .lit (.int .i64 0), .lit (.int .i64 0), .lit (.int .i64 0)], .agg [.lit (.int .i64 5), .lit (.int .i64 0), .lit (.int .i64 5), .lit (.int .i64 0), .nil, .lit (.int .i64 3), .lit (.int .i64 0), .lit (.int .i64 4)], .agg [.lit (.int .i64 5), .lit (.int .i64 0), .lit (.int .i64 0), .lit (.int .i64 0), .slice [.lit (.int .i64 4)] [], .lit (.int .i64 0), .lit (.int .i64 0), .lit (.int .i64 0)], .agg [.lit (.int .i64 5), .lit (.int .i64 0), .lit (.int .i64 0), .lit (.int .i64 0), .nil, .lit (.int .i64 0), .lit (.int .i64 0), .lit (.int .i64 0)], .agg [.lit (.int .i64 1), .lit (.int .i64 0), .lit (.int .i64 3), .lit (.int .i64 0), .nil, .lit (.int .i64 0), .lit (.int .i64 0), .lit (.int .i64 0)], .agg [.lit (.int .i64 0), .lit (.int .i64 0), .lit (.int .i64 3), .lit (.int .i64 0), .nil, .lit (.int .i64 6), .lit (.int .i64 1), .lit (.int .i64 1)]]
def laid_scoria_types_needs {H : Type} : DataW H := .map [(.int .i64 7, .lit (.int .i64 2)), (.int .i64 8, .lit (.int .i64 3)), (.int .i64 15, .lit (.int .i64 2)), (.int .i64 16, .lit (.int .i64 3)), (.int .i64 21, .lit (.int .i64 0))]

/-- 'scorialaw09.CompileFolds': WHATEVER THE INPUT: true; the input reads as it did. -/
def compileFoldsSpec : ChangeSpec := { name := "compileFolds", fn := fun _ => fun
  | [d1, d2, d3, d4, d5, d6] => { results := [.lit (.bool true)], args := [d1, d2, d3, d4, d5, d6] }
  | _ => none }
def compileFoldsRow : OpenClaim := { program := "ytiobgkecpekhgaadoor", sum := "0331e6c168968e8caa3951fc397d96ad821322da6fd5924db74c07ee52ba81b6", func := "scoria/scorialaw09.CompileFolds", spec := "compileFolds", unfollowed := true, recurses := true, named := ["scoria/word.operations", "scoria/tree.shapes", "scoria/types.needs"], loops := true, apart := false, laid := [("scoria/word.operations", laid_scoria_word_operations), ("scoria/tree.shapes", laid_scoria_tree_shapes), ("scoria/types.needs", laid_scoria_types_needs)] }
def CompileFoldsSaid : Prop := compileFoldsRow.holds Tryd.pinned (OpenSpec.ofChange compileFoldsSpec)

/-- ITS FALSE NEIGHBOUR: 'it returns false'. Refute it at one input. -/
def compileFoldsWrong : ChangeSpec := { name := "compileFolds", fn := fun _ => fun
  | [d1, d2, d3, d4, d5, d6] => { results := [.lit (.bool false)], args := [d1, d2, d3, d4, d5, d6] }
  | _ => none }
def CompileFoldsWrongFalsely : Prop := compileFoldsRow.holds Tryd.pinned (OpenSpec.ofChange compileFoldsWrong)

/- THE SECOND FORM. 'bulk': how many values and letters a reading holds, each counted each time it is reached (what is shared counts as often as it is met; a slice's spare places count too). A statement '..UptoSaid' is the law's where the arguments, and the package variables that the reading takes, are together of bulk at most 1048576: NARROWER than '..Said'. Prove '..Said' where nothing that the law and all that it calls make is longer than what came in: it says more and counts as full. Else prove '..UptoSaid'. A law counts once. -/
mutual
def uptoBulk {H : Type} : DataW H → Nat
  | .lit (.string bytes) => bytes.length + 1
  | .lit _ => 1
  | .nil => 1
  | .ptr d => uptoBulk d + 1
  | .slice elems spare => uptoBulkAll elems + uptoBulkAll spare + 1
  | .agg parts => uptoBulkAll parts + 1
  | .iface _ d => uptoBulk d + 1
  | .map entries => uptoBulkEntries entries + 1
  | .held _ => 1
def uptoBulkAll {H : Type} : List (DataW H) → Nat
  | [] => 0
  | d :: r => uptoBulk d + uptoBulkAll r
def uptoBulkEntries {H : Type} : List (Lit × DataW H) → Nat
  | [] => 0
  | x :: r => uptoBulkEntry x + uptoBulkEntries r
def uptoBulkEntry {H : Type} : Lit × DataW H → Nat
  | (.string bytes, d) => bytes.length + uptoBulk d + 1
  | (_, d) => uptoBulk d + 1
 end
def uptoSmall : (H : Type) → List (DataW H) → Bool := fun _ ds => decide (uptoBulkAll ds ≤ 1048576)
def OpenSpec.upto (s : _root_.Go.ChangeSpec) : _root_.Go.OpenSpec := { _root_.Go.OpenSpec.ofChange s with cond := some uptoSmall }

/-- 'scorialaw09.CompileFolds', WHERE WHAT IT READS IS OF BULK AT MOST 1048576: true; the input reads as it did. -/
def compileFoldsUptoRow : OpenClaim := { program := "ytiobgkecpekhgaadoor", sum := "0331e6c168968e8caa3951fc397d96ad821322da6fd5924db74c07ee52ba81b6", func := "scoria/scorialaw09.CompileFolds", spec := "compileFolds", unfollowed := true, recurses := true, named := ["scoria/word.operations", "scoria/tree.shapes", "scoria/types.needs"], loops := true, apart := false, laid := [("scoria/word.operations", laid_scoria_word_operations), ("scoria/tree.shapes", laid_scoria_tree_shapes), ("scoria/types.needs", laid_scoria_types_needs)], narrowed := true }
def CompileFoldsUptoSaid : Prop := compileFoldsUptoRow.holds Tryd.pinned (OpenSpec.upto compileFoldsSpec)

end Rows
end Go.Proofs.YtiobgkecpekhgaaDoor
