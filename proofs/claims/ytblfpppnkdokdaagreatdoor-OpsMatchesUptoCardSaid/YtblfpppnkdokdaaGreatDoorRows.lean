/-
  NARROWER THAN 'FOR EVERY INPUT', by the rows' own cells (each row's printed sentence says how): OpsValid: loops, laid · OpsMatches: loops, laid · OpsSites: laid.
  DERIVED. THE GIVEN ROWS OF THIS SEAT. 3 by the template 'for every input the law returns true; each argument reads behind the call as it read before'; 0 by the template 'total and deterministic' (their statements: YtblfpppnkdokdaaGreatDoorTotals.lean).
  GIVEN WITH THE SEED: the statements are not yours to turn. If you find one false, say at which input.
  Laid BY PROGRAM, IN A SANDBOX (cutbox-rows.mjs): the forced cells as the released guide's own fill.sh prints them over the translation 5ee7a71f9077b7ad… (all of the seat's roots in one cut). By AI agents, Wed Nov 11 2026. No macro, syntax, notation, axiom, sorry.
-/
import Derived.Test.YtblfpppnkdokdaaGreatDoorChecked
import GoSem.PinnedTables
import GoSem.Claim
import GoSem.ClaimJoined
import GoSem.ClaimMapViews
import Derived.JoinedTies
import Derived.KernelRfl
namespace Go.Proofs.YtblfpppnkdokdaaGreatDoor
/- THE CELL 'sum', in the pinned program and in every row, IS THE sha256 OF THE DUMP (.gsa) THAT YtblfpppnkdokdaaGreatDoorProg.lean LOADS. Nothing in Lean hashes anything: it is a label: what it is worth is what the hold of that sum in a sandbox is worth. -/
noncomputable def Tryz.pinned : Pinned := { name := "ytblfpppnkdokdaagreatdoor", sum := "5ee7a71f9077b7ad3493349833c928ea0362ba354878a362d0ea7924e88a6c7a", checked := Tryz.checked }
namespace Rows
def none {H : Type} : Left H := { results := [], args := [] }

/- WHAT THE LISTED PACKAGE-LEVEL VARIABLES READ AS WHEN THE CALL BEGINS. Each datum BY PROGRAM (the guide's laid-datum.mjs) off the statement by which the dump's own 'gosem.cut.vars' lays the variable. In a bare row this is a premise. The card (YtblfpppnkdokdaaGreatDoorCards.lean) ties it to the program's text. -/
def laid_unicode_utf8_acceptRanges {H : Type} : DataW H := .agg [.agg [.lit (.int .u8 128), .lit (.int .u8 191)], .agg [.lit (.int .u8 160), .lit (.int .u8 191)], .agg [.lit (.int .u8 128), .lit (.int .u8 159)], .agg [.lit (.int .u8 144), .lit (.int .u8 191)], .agg [.lit (.int .u8 128), .lit (.int .u8 143)], .agg [.lit (.int .u8 0), .lit (.int .u8 0)], .agg [.lit (.int .u8 0), .lit (.int .u8 0)], .agg [.lit (.int .u8 0), .lit (.int .u8 0)], .agg [.lit (.int .u8 0), .lit (.int .u8 0)], .agg [.lit (.int .u8 0), .lit (.int .u8 0)], .agg [.lit (.int .u8 0), .lit (.int .u8 0)], .agg [.lit (.int .u8 0), .lit (.int .u8 0)], .agg [.lit (.int .u8 0), .lit (.int .u8 0)], .agg [.lit (.int .u8 0), .lit (.int .u8 0)], .agg [.lit (.int .u8 0), .lit (.int .u8 0)], .agg [.lit (.int .u8 0), .lit (.int .u8 0)]]
def laid_scoria_ops_pairs {H : Type} : DataW H := .agg [.agg [.lit (.string [112, 108, 117, 115]), .lit (.int .i64 0), .lit (.int .i64 0), .lit (.int .i64 1), .lit (.int .i64 1)], .agg [.lit (.string [109, 105, 110, 117, 115]), .lit (.int .i64 1), .lit (.int .i64 1), .lit (.int .i64 0), .lit (.int .i64 0)], .agg [.lit (.string [108, 101, 115, 115]), .lit (.int .i64 2), .lit (.int .i64 10), .lit (.int .i64 11), .lit (.int .i64 3)], .agg [.lit (.string [115, 97, 109, 101]), .lit (.int .i64 3), .lit (.int .i64 11), .lit (.int .i64 10), .lit (.int .i64 2)], .agg [.lit (.string [98, 111, 116, 104]), .lit (.int .i64 4), .lit (.int .i64 12), .lit (.int .i64 13), .lit (.int .i64 5)], .agg [.lit (.string [115, 111, 109, 101]), .lit (.int .i64 5), .lit (.int .i64 13), .lit (.int .i64 12), .lit (.int .i64 4)], .agg [.lit (.string [116, 105, 109, 101, 115]), .lit (.int .i64 14), .lit (.int .i64 2), .lit (.int .i64 3), .lit (.int .i64 15)], .agg [.lit (.string [100, 105, 118, 105, 100, 101]), .lit (.int .i64 15), .lit (.int .i64 3), .lit (.int .i64 2), .lit (.int .i64 14)], .agg [.lit (.string [97, 110, 100]), .lit (.int .i64 16), .lit (.int .i64 5), .lit (.int .i64 6), .lit (.int .i64 17)], .agg [.lit (.string [111, 114]), .lit (.int .i64 17), .lit (.int .i64 6), .lit (.int .i64 5), .lit (.int .i64 16)], .agg [.lit (.string [108, 101, 102, 116]), .lit (.int .i64 18), .lit (.int .i64 8), .lit (.int .i64 9), .lit (.int .i64 19)], .agg [.lit (.string [114, 105, 103, 104, 116]), .lit (.int .i64 19), .lit (.int .i64 9), .lit (.int .i64 8), .lit (.int .i64 18)]]
/-- One of Go's own tables, pinned by name: the form's constant. -/
def laid_unicode_utf8_first : DataW Unit := Go.Pinned.utf8First

/-- 'scorialaw14.OpsValid': WHATEVER THE INPUT: true; the input reads as it did. -/
def opsValidSpec : ChangeSpec := { name := "opsValid", fn := fun _ => fun
  | [d1, d2, d3, d4, d5, d6, d7] => { results := [.lit (.bool true)], args := [d1, d2, d3, d4, d5, d6, d7] }
  | _ => none }
def opsValidRow : OpenClaim := { program := "ytblfpppnkdokdaagreatdoor", sum := "5ee7a71f9077b7ad3493349833c928ea0362ba354878a362d0ea7924e88a6c7a", func := "scoria/scorialaw14.OpsValid", spec := "opsValid", inPlace := ["internal/bytealg.IndexByteString", "internal/bytealg.IndexString"], unfollowed := true, recurses := true, named := ["unicode/utf8.first", "unicode/utf8.acceptRanges", "scoria/ops.pairs", "internal/bytealg.MaxLen"], loops := true, apart := false, laid := [("unicode/utf8.acceptRanges", laid_unicode_utf8_acceptRanges), ("scoria/ops.pairs", laid_scoria_ops_pairs), ("unicode/utf8.first", laid_unicode_utf8_first)] }
def OpsValidSaid : Prop := opsValidRow.holds Tryz.pinned (OpenSpec.ofChange opsValidSpec)

/-- ITS FALSE NEIGHBOUR: 'it returns false'. Refute it at one input. -/
def opsValidWrong : ChangeSpec := { name := "opsValid", fn := fun _ => fun
  | [d1, d2, d3, d4, d5, d6, d7] => { results := [.lit (.bool false)], args := [d1, d2, d3, d4, d5, d6, d7] }
  | _ => none }
def OpsValidWrongFalsely : Prop := opsValidRow.holds Tryz.pinned (OpenSpec.ofChange opsValidWrong)

/-- 'scorialaw14.OpsMatches': WHATEVER THE INPUT: true; the input reads as it did. -/
def opsMatchesSpec : ChangeSpec := { name := "opsMatches", fn := fun _ => fun
  | [d1, d2, d3, d4, d5, d6] => { results := [.lit (.bool true)], args := [d1, d2, d3, d4, d5, d6] }
  | _ => none }
def opsMatchesRow : OpenClaim := { program := "ytblfpppnkdokdaagreatdoor", sum := "5ee7a71f9077b7ad3493349833c928ea0362ba354878a362d0ea7924e88a6c7a", func := "scoria/scorialaw14.OpsMatches", spec := "opsMatches", inPlace := ["internal/bytealg.IndexByteString", "internal/bytealg.IndexString"], unfollowed := true, recurses := true, named := ["unicode/utf8.first", "unicode/utf8.acceptRanges", "scoria/ops.pairs", "internal/bytealg.MaxLen"], loops := true, apart := false, laid := [("unicode/utf8.acceptRanges", laid_unicode_utf8_acceptRanges), ("scoria/ops.pairs", laid_scoria_ops_pairs), ("unicode/utf8.first", laid_unicode_utf8_first)] }
def OpsMatchesSaid : Prop := opsMatchesRow.holds Tryz.pinned (OpenSpec.ofChange opsMatchesSpec)

/-- ITS FALSE NEIGHBOUR: 'it returns false'. Refute it at one input. -/
def opsMatchesWrong : ChangeSpec := { name := "opsMatches", fn := fun _ => fun
  | [d1, d2, d3, d4, d5, d6] => { results := [.lit (.bool false)], args := [d1, d2, d3, d4, d5, d6] }
  | _ => none }
def OpsMatchesWrongFalsely : Prop := opsMatchesRow.holds Tryz.pinned (OpenSpec.ofChange opsMatchesWrong)

/-- 'scorialaw14.OpsSites': WHATEVER THE INPUT: true; the input reads as it did. -/
def opsSitesSpec : ChangeSpec := { name := "opsSites", fn := fun _ => fun
  | [d1, d2, d3, d4, d5] => { results := [.lit (.bool true)], args := [d1, d2, d3, d4, d5] }
  | _ => none }
def opsSitesRow : OpenClaim := { program := "ytblfpppnkdokdaagreatdoor", sum := "5ee7a71f9077b7ad3493349833c928ea0362ba354878a362d0ea7924e88a6c7a", func := "scoria/scorialaw14.OpsSites", spec := "opsSites", inPlace := ["internal/bytealg.IndexByteString", "internal/bytealg.IndexString"], unfollowed := true, recurses := true, named := ["unicode/utf8.first", "unicode/utf8.acceptRanges", "scoria/ops.pairs", "internal/bytealg.MaxLen"], apart := false, laid := [("unicode/utf8.acceptRanges", laid_unicode_utf8_acceptRanges), ("scoria/ops.pairs", laid_scoria_ops_pairs), ("unicode/utf8.first", laid_unicode_utf8_first)] }
def OpsSitesSaid : Prop := opsSitesRow.holds Tryz.pinned (OpenSpec.ofChange opsSitesSpec)

/-- ITS FALSE NEIGHBOUR: 'it returns false'. Refute it at one input. -/
def opsSitesWrong : ChangeSpec := { name := "opsSites", fn := fun _ => fun
  | [d1, d2, d3, d4, d5] => { results := [.lit (.bool false)], args := [d1, d2, d3, d4, d5] }
  | _ => none }
def OpsSitesWrongFalsely : Prop := opsSitesRow.holds Tryz.pinned (OpenSpec.ofChange opsSitesWrong)

/- THE SECOND FORM. 'bulk': how many values and letters a reading holds, each counted each time it is reached (what is shared counts as often as it is met; a slice's spare places count too). A statement '..UptoSaid' is the law's where the arguments, and the package variables that the reading takes, are together of bulk at most 1048576: NARROWER than '..Said'. Prove '..Said' where nothing that the law and all that it calls make is longer than what came in: it says more and counts as full. Else prove '..UptoSaid'. A law counts once. -/
mutual
def uptoBulk {H : Type} : DataW H → Nat
  | .lit (.string bytes) => bytes.length + 1
  | .lit _ => 1
  | .nil => 1
  | .ptr d => uptoBulk d + 1
  | .slice elems spare => uptoBulkAll elems + uptoBulkAll spare + 1
  | .agg parts => uptoBulkAll parts + 1
  | .iface _ d => uptoBulk d + 1
  | .map entries => uptoBulkEntries entries + 1
  | .held _ => 1
def uptoBulkAll {H : Type} : List (DataW H) → Nat
  | [] => 0
  | d :: r => uptoBulk d + uptoBulkAll r
def uptoBulkEntries {H : Type} : List (Lit × DataW H) → Nat
  | [] => 0
  | x :: r => uptoBulkEntry x + uptoBulkEntries r
def uptoBulkEntry {H : Type} : Lit × DataW H → Nat
  | (.string bytes, d) => bytes.length + uptoBulk d + 1
  | (_, d) => uptoBulk d + 1
 end
def uptoSmall : (H : Type) → List (DataW H) → Bool := fun _ ds => decide (uptoBulkAll ds ≤ 1048576)
def OpenSpec.upto (s : _root_.Go.ChangeSpec) : _root_.Go.OpenSpec := { _root_.Go.OpenSpec.ofChange s with cond := some uptoSmall }

/-- 'scorialaw14.OpsValid', WHERE WHAT IT READS IS OF BULK AT MOST 1048576: true; the input reads as it did. -/
def opsValidUptoRow : OpenClaim := { program := "ytblfpppnkdokdaagreatdoor", sum := "5ee7a71f9077b7ad3493349833c928ea0362ba354878a362d0ea7924e88a6c7a", func := "scoria/scorialaw14.OpsValid", spec := "opsValid", inPlace := ["internal/bytealg.IndexByteString", "internal/bytealg.IndexString"], unfollowed := true, recurses := true, named := ["unicode/utf8.first", "unicode/utf8.acceptRanges", "scoria/ops.pairs", "internal/bytealg.MaxLen"], loops := true, apart := false, laid := [("unicode/utf8.acceptRanges", laid_unicode_utf8_acceptRanges), ("scoria/ops.pairs", laid_scoria_ops_pairs), ("unicode/utf8.first", laid_unicode_utf8_first)], narrowed := true }
def OpsValidUptoSaid : Prop := opsValidUptoRow.holds Tryz.pinned (OpenSpec.upto opsValidSpec)

/-- 'scorialaw14.OpsMatches', WHERE WHAT IT READS IS OF BULK AT MOST 1048576: true; the input reads as it did. -/
def opsMatchesUptoRow : OpenClaim := { program := "ytblfpppnkdokdaagreatdoor", sum := "5ee7a71f9077b7ad3493349833c928ea0362ba354878a362d0ea7924e88a6c7a", func := "scoria/scorialaw14.OpsMatches", spec := "opsMatches", inPlace := ["internal/bytealg.IndexByteString", "internal/bytealg.IndexString"], unfollowed := true, recurses := true, named := ["unicode/utf8.first", "unicode/utf8.acceptRanges", "scoria/ops.pairs", "internal/bytealg.MaxLen"], loops := true, apart := false, laid := [("unicode/utf8.acceptRanges", laid_unicode_utf8_acceptRanges), ("scoria/ops.pairs", laid_scoria_ops_pairs), ("unicode/utf8.first", laid_unicode_utf8_first)], narrowed := true }
def OpsMatchesUptoSaid : Prop := opsMatchesUptoRow.holds Tryz.pinned (OpenSpec.upto opsMatchesSpec)

/-- 'scorialaw14.OpsSites', WHERE WHAT IT READS IS OF BULK AT MOST 1048576: true; the input reads as it did. -/
def opsSitesUptoRow : OpenClaim := { program := "ytblfpppnkdokdaagreatdoor", sum := "5ee7a71f9077b7ad3493349833c928ea0362ba354878a362d0ea7924e88a6c7a", func := "scoria/scorialaw14.OpsSites", spec := "opsSites", inPlace := ["internal/bytealg.IndexByteString", "internal/bytealg.IndexString"], unfollowed := true, recurses := true, named := ["unicode/utf8.first", "unicode/utf8.acceptRanges", "scoria/ops.pairs", "internal/bytealg.MaxLen"], apart := false, laid := [("unicode/utf8.acceptRanges", laid_unicode_utf8_acceptRanges), ("scoria/ops.pairs", laid_scoria_ops_pairs), ("unicode/utf8.first", laid_unicode_utf8_first)], narrowed := true }
def OpsSitesUptoSaid : Prop := opsSitesUptoRow.holds Tryz.pinned (OpenSpec.upto opsSitesSpec)

end Rows
end Go.Proofs.YtblfpppnkdokdaaGreatDoor
