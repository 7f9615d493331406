/-
  NARROWER THAN 'FOR EVERY INPUT', by the rows' own cells (each row's printed sentence says how): OpsCompares: laid · OpsUndone: laid.
  DERIVED. THE GIVEN ROWS OF THIS SEAT. 2 by the template 'for every input the law returns true; each argument reads behind the call as it read before'; 0 by the template 'total and deterministic' (their statements: YtpdibmopbpcfdaaDoorTotals.lean).
  GIVEN WITH THE SEED: the statements are not yours to turn. If you find one false, say at which input.
  Laid BY PROGRAM, IN A SANDBOX (cutbox-rows.mjs): the forced cells as the released guide's own fill.sh prints them over the translation 50c791c51fef9422… (all of the seat's roots in one cut). By AI agents, Wed Nov 11 2026. No macro, syntax, notation, axiom, sorry.
-/
import Derived.Test.YtpdibmopbpcfdaaDoorChecked
import GoSem.PinnedTables
import GoSem.Claim
import GoSem.ClaimJoined
import GoSem.ClaimMapViews
import Derived.JoinedTies
import Derived.KernelRfl
namespace Go.Proofs.YtpdibmopbpcfdaaDoor
/- THE CELL 'sum', in the pinned program and in every row, IS THE sha256 OF THE DUMP (.gsa) THAT YtpdibmopbpcfdaaDoorProg.lean LOADS. Nothing in Lean hashes anything: it is a label: what it is worth is what the hold of that sum in a sandbox is worth. -/
noncomputable def Tryd.pinned : Pinned := { name := "ytpdibmopbpcfdaadoor", sum := "50c791c51fef9422468d1cb227e379a11261d5de5905379d0d611c723a985486", checked := Tryd.checked }
namespace Rows
def none {H : Type} : Left H := { results := [], args := [] }

/- WHAT THE LISTED PACKAGE-LEVEL VARIABLES READ AS WHEN THE CALL BEGINS. Each datum BY PROGRAM (the guide's laid-datum.mjs) off the statement by which the dump's own 'gosem.cut.vars' lays the variable. In a bare row this is a premise. The card (YtpdibmopbpcfdaaDoorCards.lean) ties it to the program's text. -/
def laid_unicode_utf8_acceptRanges {H : Type} : DataW H := .agg [.agg [.lit (.int .u8 128), .lit (.int .u8 191)], .agg [.lit (.int .u8 160), .lit (.int .u8 191)], .agg [.lit (.int .u8 128), .lit (.int .u8 159)], .agg [.lit (.int .u8 144), .lit (.int .u8 191)], .agg [.lit (.int .u8 128), .lit (.int .u8 143)], .agg [.lit (.int .u8 0), .lit (.int .u8 0)], .agg [.lit (.int .u8 0), .lit (.int .u8 0)], .agg [.lit (.int .u8 0), .lit (.int .u8 0)], .agg [.lit (.int .u8 0), .lit (.int .u8 0)], .agg [.lit (.int .u8 0), .lit (.int .u8 0)], .agg [.lit (.int .u8 0), .lit (.int .u8 0)], .agg [.lit (.int .u8 0), .lit (.int .u8 0)], .agg [.lit (.int .u8 0), .lit (.int .u8 0)], .agg [.lit (.int .u8 0), .lit (.int .u8 0)], .agg [.lit (.int .u8 0), .lit (.int .u8 0)], .agg [.lit (.int .u8 0), .lit (.int .u8 0)]]
def laid_scoria_ops_pairs {H : Type} : DataW H := .agg [.agg [.lit (.string [112, 108, 117, 115]), .lit (.int .i64 0), .lit (.int .i64 0), .lit (.int .i64 1), .lit (.int .i64 1)], .agg [.lit (.string [109, 105, 110, 117, 115]), .lit (.int .i64 1), .lit (.int .i64 1), .lit (.int .i64 0), .lit (.int .i64 0)], .agg [.lit (.string [108, 101, 115, 115]), .lit (.int .i64 2), .lit (.int .i64 10), .lit (.int .i64 11), .lit (.int .i64 3)], .agg [.lit (.string [115, 97, 109, 101]), .lit (.int .i64 3), .lit (.int .i64 11), .lit (.int .i64 10), .lit (.int .i64 2)], .agg [.lit (.string [98, 111, 116, 104]), .lit (.int .i64 4), .lit (.int .i64 12), .lit (.int .i64 13), .lit (.int .i64 5)], .agg [.lit (.string [115, 111, 109, 101]), .lit (.int .i64 5), .lit (.int .i64 13), .lit (.int .i64 12), .lit (.int .i64 4)], .agg [.lit (.string [116, 105, 109, 101, 115]), .lit (.int .i64 14), .lit (.int .i64 2), .lit (.int .i64 3), .lit (.int .i64 15)], .agg [.lit (.string [100, 105, 118, 105, 100, 101]), .lit (.int .i64 15), .lit (.int .i64 3), .lit (.int .i64 2), .lit (.int .i64 14)], .agg [.lit (.string [97, 110, 100]), .lit (.int .i64 16), .lit (.int .i64 5), .lit (.int .i64 6), .lit (.int .i64 17)], .agg [.lit (.string [111, 114]), .lit (.int .i64 17), .lit (.int .i64 6), .lit (.int .i64 5), .lit (.int .i64 16)], .agg [.lit (.string [108, 101, 102, 116]), .lit (.int .i64 18), .lit (.int .i64 8), .lit (.int .i64 9), .lit (.int .i64 19)], .agg [.lit (.string [114, 105, 103, 104, 116]), .lit (.int .i64 19), .lit (.int .i64 9), .lit (.int .i64 8), .lit (.int .i64 18)]]
/-- One of Go's own tables, pinned by name: the form's constant. -/
def laid_unicode_utf8_first : DataW Unit := Go.Pinned.utf8First

/-- 'scorialaw14.OpsCompares': WHATEVER THE INPUT: true; the input reads as it did. -/
def opsComparesSpec : ChangeSpec := { name := "opsCompares", fn := fun _ => fun
  | [d1, d2, d3, d4, d5, d6] => { results := [.lit (.bool true)], args := [d1, d2, d3, d4, d5, d6] }
  | _ => none }
def opsComparesRow : OpenClaim := { program := "ytpdibmopbpcfdaadoor", sum := "50c791c51fef9422468d1cb227e379a11261d5de5905379d0d611c723a985486", func := "scoria/scorialaw14.OpsCompares", spec := "opsCompares", inPlace := ["internal/bytealg.IndexByteString", "internal/bytealg.IndexString"], unfollowed := true, recurses := true, named := ["scoria/ops.pairs", "unicode/utf8.first", "unicode/utf8.acceptRanges", "internal/bytealg.MaxLen"], apart := false, laid := [("unicode/utf8.acceptRanges", laid_unicode_utf8_acceptRanges), ("scoria/ops.pairs", laid_scoria_ops_pairs), ("unicode/utf8.first", laid_unicode_utf8_first)] }
def OpsComparesSaid : Prop := opsComparesRow.holds Tryd.pinned (OpenSpec.ofChange opsComparesSpec)

/-- ITS FALSE NEIGHBOUR: 'it returns false'. Refute it at one input. -/
def opsComparesWrong : ChangeSpec := { name := "opsCompares", fn := fun _ => fun
  | [d1, d2, d3, d4, d5, d6] => { results := [.lit (.bool false)], args := [d1, d2, d3, d4, d5, d6] }
  | _ => none }
def OpsComparesWrongFalsely : Prop := opsComparesRow.holds Tryd.pinned (OpenSpec.ofChange opsComparesWrong)

/-- 'scorialaw14.OpsUndone': WHATEVER THE INPUT: true; the input reads as it did. -/
def opsUndoneSpec : ChangeSpec := { name := "opsUndone", fn := fun _ => fun
  | [d1, d2] => { results := [.lit (.bool true)], args := [d1, d2] }
  | _ => none }
def opsUndoneRow : OpenClaim := { program := "ytpdibmopbpcfdaadoor", sum := "50c791c51fef9422468d1cb227e379a11261d5de5905379d0d611c723a985486", func := "scoria/scorialaw14.OpsUndone", spec := "opsUndone", inPlace := ["internal/bytealg.IndexByteString", "internal/bytealg.IndexString"], unfollowed := true, recurses := true, named := ["scoria/ops.pairs", "unicode/utf8.first", "unicode/utf8.acceptRanges", "internal/bytealg.MaxLen"], apart := false, laid := [("unicode/utf8.acceptRanges", laid_unicode_utf8_acceptRanges), ("scoria/ops.pairs", laid_scoria_ops_pairs), ("unicode/utf8.first", laid_unicode_utf8_first)] }
def OpsUndoneSaid : Prop := opsUndoneRow.holds Tryd.pinned (OpenSpec.ofChange opsUndoneSpec)

/-- ITS FALSE NEIGHBOUR: 'it returns false'. Refute it at one input. -/
def opsUndoneWrong : ChangeSpec := { name := "opsUndone", fn := fun _ => fun
  | [d1, d2] => { results := [.lit (.bool false)], args := [d1, d2] }
  | _ => none }
def OpsUndoneWrongFalsely : Prop := opsUndoneRow.holds Tryd.pinned (OpenSpec.ofChange opsUndoneWrong)

/- THE SECOND FORM. 'bulk': how many values and letters a reading holds, each counted each time it is reached (what is shared counts as often as it is met; a slice's spare places count too). A statement '..UptoSaid' is the law's where the arguments, and the package variables that the reading takes, are together of bulk at most 1048576: NARROWER than '..Said'. Prove '..Said' where nothing that the law and all that it calls make is longer than what came in: it says more and counts as full. Else prove '..UptoSaid'. A law counts once. -/
mutual
def uptoBulk {H : Type} : DataW H → Nat
  | .lit (.string bytes) => bytes.length + 1
  | .lit _ => 1
  | .nil => 1
  | .ptr d => uptoBulk d + 1
  | .slice elems spare => uptoBulkAll elems + uptoBulkAll spare + 1
  | .agg parts => uptoBulkAll parts + 1
  | .iface _ d => uptoBulk d + 1
  | .map entries => uptoBulkEntries entries + 1
  | .held _ => 1
def uptoBulkAll {H : Type} : List (DataW H) → Nat
  | [] => 0
  | d :: r => uptoBulk d + uptoBulkAll r
def uptoBulkEntries {H : Type} : List (Lit × DataW H) → Nat
  | [] => 0
  | x :: r => uptoBulkEntry x + uptoBulkEntries r
def uptoBulkEntry {H : Type} : Lit × DataW H → Nat
  | (.string bytes, d) => bytes.length + uptoBulk d + 1
  | (_, d) => uptoBulk d + 1
 end
def uptoSmall : (H : Type) → List (DataW H) → Bool := fun _ ds => decide (uptoBulkAll ds ≤ 1048576)
def OpenSpec.upto (s : _root_.Go.ChangeSpec) : _root_.Go.OpenSpec := { _root_.Go.OpenSpec.ofChange s with cond := some uptoSmall }

/-- 'scorialaw14.OpsCompares', WHERE WHAT IT READS IS OF BULK AT MOST 1048576: true; the input reads as it did. -/
def opsComparesUptoRow : OpenClaim := { program := "ytpdibmopbpcfdaadoor", sum := "50c791c51fef9422468d1cb227e379a11261d5de5905379d0d611c723a985486", func := "scoria/scorialaw14.OpsCompares", spec := "opsCompares", inPlace := ["internal/bytealg.IndexByteString", "internal/bytealg.IndexString"], unfollowed := true, recurses := true, named := ["scoria/ops.pairs", "unicode/utf8.first", "unicode/utf8.acceptRanges", "internal/bytealg.MaxLen"], apart := false, laid := [("unicode/utf8.acceptRanges", laid_unicode_utf8_acceptRanges), ("scoria/ops.pairs", laid_scoria_ops_pairs), ("unicode/utf8.first", laid_unicode_utf8_first)], narrowed := true }
def OpsComparesUptoSaid : Prop := opsComparesUptoRow.holds Tryd.pinned (OpenSpec.upto opsComparesSpec)

/-- 'scorialaw14.OpsUndone', WHERE WHAT IT READS IS OF BULK AT MOST 1048576: true; the input reads as it did. -/
def opsUndoneUptoRow : OpenClaim := { program := "ytpdibmopbpcfdaadoor", sum := "50c791c51fef9422468d1cb227e379a11261d5de5905379d0d611c723a985486", func := "scoria/scorialaw14.OpsUndone", spec := "opsUndone", inPlace := ["internal/bytealg.IndexByteString", "internal/bytealg.IndexString"], unfollowed := true, recurses := true, named := ["scoria/ops.pairs", "unicode/utf8.first", "unicode/utf8.acceptRanges", "internal/bytealg.MaxLen"], apart := false, laid := [("unicode/utf8.acceptRanges", laid_unicode_utf8_acceptRanges), ("scoria/ops.pairs", laid_scoria_ops_pairs), ("unicode/utf8.first", laid_unicode_utf8_first)], narrowed := true }
def OpsUndoneUptoSaid : Prop := opsUndoneUptoRow.holds Tryd.pinned (OpenSpec.upto opsUndoneSpec)

end Rows
end Go.Proofs.YtpdibmopbpcfdaaDoor
