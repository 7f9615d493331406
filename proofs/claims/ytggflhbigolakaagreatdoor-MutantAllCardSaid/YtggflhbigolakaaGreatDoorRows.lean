/-
  NARROWER THAN 'FOR EVERY INPUT', by the rows' own cells (each row's printed sentence says how): MutantMakes: laid · MutantCompares: laid · MutantAll: laid · MutantApart: laid · MutantBack: laid · MutantNormal: laid · MutantWhole: laid.
  DERIVED. THE GIVEN ROWS OF THIS SEAT. 7 by the template 'for every input the law returns true; each argument reads behind the call as it read before'; 0 by the template 'total and deterministic' (their statements: YtggflhbigolakaaGreatDoorTotals.lean).
  GIVEN WITH THE SEED: the statements are not yours to turn. If you find one false, say at which input.
  Laid BY PROGRAM, IN A SANDBOX (cutbox-rows.mjs): the forced cells as the released guide's own fill.sh prints them over the translation bdfe65f25a2420bf… (all of the seat's roots in one cut). By AI agents, Wed Nov 11 2026. No macro, syntax, notation, axiom, sorry.
-/
import Derived.Test.YtggflhbigolakaaGreatDoorChecked
import GoSem.PinnedTables
import GoSem.Claim
import GoSem.ClaimJoined
import GoSem.ClaimMapViews
import Derived.JoinedTies
import Derived.KernelRfl
namespace Go.Proofs.YtggflhbigolakaaGreatDoor
/- THE CELL 'sum', in the pinned program and in every row, IS THE sha256 OF THE DUMP (.gsa) THAT YtggflhbigolakaaGreatDoorProg.lean LOADS. Nothing in Lean hashes anything: it is a label: what it is worth is what the hold of that sum in a sandbox is worth. -/
noncomputable def Tryz.pinned : Pinned := { name := "ytggflhbigolakaagreatdoor", sum := "bdfe65f25a2420bff0bb5fa74cb7dac16474fadeadfdbaf4457dce1728a1b0e3", checked := Tryz.checked }
namespace Rows
def none {H : Type} : Left H := { results := [], args := [] }

/- WHAT THE LISTED PACKAGE-LEVEL VARIABLES READ AS WHEN THE CALL BEGINS. Each datum BY PROGRAM (the guide's laid-datum.mjs) off the statement by which the dump's own 'gosem.cut.vars' lays the variable. In a bare row this is a premise. The card (YtggflhbigolakaaGreatDoorCards.lean) ties it to the program's text. -/
def laid_unicode_utf8_acceptRanges {H : Type} : DataW H := .agg [.agg [.lit (.int .u8 128), .lit (.int .u8 191)], .agg [.lit (.int .u8 160), .lit (.int .u8 191)], .agg [.lit (.int .u8 128), .lit (.int .u8 159)], .agg [.lit (.int .u8 144), .lit (.int .u8 191)], .agg [.lit (.int .u8 128), .lit (.int .u8 143)], .agg [.lit (.int .u8 0), .lit (.int .u8 0)], .agg [.lit (.int .u8 0), .lit (.int .u8 0)], .agg [.lit (.int .u8 0), .lit (.int .u8 0)], .agg [.lit (.int .u8 0), .lit (.int .u8 0)], .agg [.lit (.int .u8 0), .lit (.int .u8 0)], .agg [.lit (.int .u8 0), .lit (.int .u8 0)], .agg [.lit (.int .u8 0), .lit (.int .u8 0)], .agg [.lit (.int .u8 0), .lit (.int .u8 0)], .agg [.lit (.int .u8 0), .lit (.int .u8 0)], .agg [.lit (.int .u8 0), .lit (.int .u8 0)], .agg [.lit (.int .u8 0), .lit (.int .u8 0)]]
/-- One of Go's own tables, pinned by name: the form's constant. -/
def laid_unicode_utf8_first : DataW Unit := Go.Pinned.utf8First

/-- 'scorialaw15.MutantMakes': WHATEVER THE INPUT: true; the input reads as it did. -/
def mutantMakesSpec : ChangeSpec := { name := "mutantMakes", fn := fun _ => fun
  | [d1, d2, d3, d4, d5] => { results := [.lit (.bool true)], args := [d1, d2, d3, d4, d5] }
  | _ => none }
def mutantMakesRow : OpenClaim := { program := "ytggflhbigolakaagreatdoor", sum := "bdfe65f25a2420bff0bb5fa74cb7dac16474fadeadfdbaf4457dce1728a1b0e3", func := "scoria/scorialaw15.MutantMakes", spec := "mutantMakes", inPlace := ["internal/bytealg.IndexByteString", "internal/bytealg.IndexString"], unfollowed := true, recurses := true, named := ["unicode/utf8.first", "unicode/utf8.acceptRanges", "internal/bytealg.MaxLen"], apart := false, laid := [("unicode/utf8.acceptRanges", laid_unicode_utf8_acceptRanges), ("unicode/utf8.first", laid_unicode_utf8_first)] }
def MutantMakesSaid : Prop := mutantMakesRow.holds Tryz.pinned (OpenSpec.ofChange mutantMakesSpec)

/-- ITS FALSE NEIGHBOUR: 'it returns false'. Refute it at one input. -/
def mutantMakesWrong : ChangeSpec := { name := "mutantMakes", fn := fun _ => fun
  | [d1, d2, d3, d4, d5] => { results := [.lit (.bool false)], args := [d1, d2, d3, d4, d5] }
  | _ => none }
def MutantMakesWrongFalsely : Prop := mutantMakesRow.holds Tryz.pinned (OpenSpec.ofChange mutantMakesWrong)

/-- 'scorialaw15.MutantCompares': WHATEVER THE INPUT: true; the input reads as it did. -/
def mutantComparesSpec : ChangeSpec := { name := "mutantCompares", fn := fun _ => fun
  | [d1, d2, d3, d4, d5, d6] => { results := [.lit (.bool true)], args := [d1, d2, d3, d4, d5, d6] }
  | _ => none }
def mutantComparesRow : OpenClaim := { program := "ytggflhbigolakaagreatdoor", sum := "bdfe65f25a2420bff0bb5fa74cb7dac16474fadeadfdbaf4457dce1728a1b0e3", func := "scoria/scorialaw15.MutantCompares", spec := "mutantCompares", inPlace := ["internal/bytealg.IndexByteString", "internal/bytealg.IndexString"], unfollowed := true, recurses := true, named := ["unicode/utf8.first", "unicode/utf8.acceptRanges", "internal/bytealg.MaxLen"], apart := false, laid := [("unicode/utf8.acceptRanges", laid_unicode_utf8_acceptRanges), ("unicode/utf8.first", laid_unicode_utf8_first)] }
def MutantComparesSaid : Prop := mutantComparesRow.holds Tryz.pinned (OpenSpec.ofChange mutantComparesSpec)

/-- ITS FALSE NEIGHBOUR: 'it returns false'. Refute it at one input. -/
def mutantComparesWrong : ChangeSpec := { name := "mutantCompares", fn := fun _ => fun
  | [d1, d2, d3, d4, d5, d6] => { results := [.lit (.bool false)], args := [d1, d2, d3, d4, d5, d6] }
  | _ => none }
def MutantComparesWrongFalsely : Prop := mutantComparesRow.holds Tryz.pinned (OpenSpec.ofChange mutantComparesWrong)

/-- 'scorialaw15.MutantAll': WHATEVER THE INPUT: true; the input reads as it did. -/
def mutantAllSpec : ChangeSpec := { name := "mutantAll", fn := fun _ => fun
  | [d1, d2, d3] => { results := [.lit (.bool true)], args := [d1, d2, d3] }
  | _ => none }
def mutantAllRow : OpenClaim := { program := "ytggflhbigolakaagreatdoor", sum := "bdfe65f25a2420bff0bb5fa74cb7dac16474fadeadfdbaf4457dce1728a1b0e3", func := "scoria/scorialaw15.MutantAll", spec := "mutantAll", inPlace := ["internal/bytealg.IndexByteString", "internal/bytealg.IndexString"], unfollowed := true, recurses := true, named := ["unicode/utf8.first", "unicode/utf8.acceptRanges", "internal/bytealg.MaxLen"], apart := false, laid := [("unicode/utf8.acceptRanges", laid_unicode_utf8_acceptRanges), ("unicode/utf8.first", laid_unicode_utf8_first)] }
def MutantAllSaid : Prop := mutantAllRow.holds Tryz.pinned (OpenSpec.ofChange mutantAllSpec)

/-- ITS FALSE NEIGHBOUR: 'it returns false'. Refute it at one input. -/
def mutantAllWrong : ChangeSpec := { name := "mutantAll", fn := fun _ => fun
  | [d1, d2, d3] => { results := [.lit (.bool false)], args := [d1, d2, d3] }
  | _ => none }
def MutantAllWrongFalsely : Prop := mutantAllRow.holds Tryz.pinned (OpenSpec.ofChange mutantAllWrong)

/-- 'scorialaw15.MutantApart': WHATEVER THE INPUT: true; the input reads as it did. -/
def mutantApartSpec : ChangeSpec := { name := "mutantApart", fn := fun _ => fun
  | [d1, d2, d3, d4] => { results := [.lit (.bool true)], args := [d1, d2, d3, d4] }
  | _ => none }
def mutantApartRow : OpenClaim := { program := "ytggflhbigolakaagreatdoor", sum := "bdfe65f25a2420bff0bb5fa74cb7dac16474fadeadfdbaf4457dce1728a1b0e3", func := "scoria/scorialaw15.MutantApart", spec := "mutantApart", inPlace := ["internal/bytealg.IndexByteString", "internal/bytealg.IndexString"], unfollowed := true, recurses := true, named := ["unicode/utf8.first", "unicode/utf8.acceptRanges", "internal/bytealg.MaxLen"], apart := false, laid := [("unicode/utf8.acceptRanges", laid_unicode_utf8_acceptRanges), ("unicode/utf8.first", laid_unicode_utf8_first)] }
def MutantApartSaid : Prop := mutantApartRow.holds Tryz.pinned (OpenSpec.ofChange mutantApartSpec)

/-- ITS FALSE NEIGHBOUR: 'it returns false'. Refute it at one input. -/
def mutantApartWrong : ChangeSpec := { name := "mutantApart", fn := fun _ => fun
  | [d1, d2, d3, d4] => { results := [.lit (.bool false)], args := [d1, d2, d3, d4] }
  | _ => none }
def MutantApartWrongFalsely : Prop := mutantApartRow.holds Tryz.pinned (OpenSpec.ofChange mutantApartWrong)

/-- 'scorialaw15.MutantBack': WHATEVER THE INPUT: true; the input reads as it did. -/
def mutantBackSpec : ChangeSpec := { name := "mutantBack", fn := fun _ => fun
  | [d1, d2, d3, d4, d5] => { results := [.lit (.bool true)], args := [d1, d2, d3, d4, d5] }
  | _ => none }
def mutantBackRow : OpenClaim := { program := "ytggflhbigolakaagreatdoor", sum := "bdfe65f25a2420bff0bb5fa74cb7dac16474fadeadfdbaf4457dce1728a1b0e3", func := "scoria/scorialaw15.MutantBack", spec := "mutantBack", inPlace := ["internal/bytealg.IndexByteString", "internal/bytealg.IndexString"], unfollowed := true, recurses := true, named := ["unicode/utf8.first", "unicode/utf8.acceptRanges", "internal/bytealg.MaxLen"], apart := false, laid := [("unicode/utf8.acceptRanges", laid_unicode_utf8_acceptRanges), ("unicode/utf8.first", laid_unicode_utf8_first)] }
def MutantBackSaid : Prop := mutantBackRow.holds Tryz.pinned (OpenSpec.ofChange mutantBackSpec)

/-- ITS FALSE NEIGHBOUR: 'it returns false'. Refute it at one input. -/
def mutantBackWrong : ChangeSpec := { name := "mutantBack", fn := fun _ => fun
  | [d1, d2, d3, d4, d5] => { results := [.lit (.bool false)], args := [d1, d2, d3, d4, d5] }
  | _ => none }
def MutantBackWrongFalsely : Prop := mutantBackRow.holds Tryz.pinned (OpenSpec.ofChange mutantBackWrong)

/-- 'scorialaw15.MutantNormal': WHATEVER THE INPUT: true; the input reads as it did. -/
def mutantNormalSpec : ChangeSpec := { name := "mutantNormal", fn := fun _ => fun
  | [d1, d2, d3, d4, d5] => { results := [.lit (.bool true)], args := [d1, d2, d3, d4, d5] }
  | _ => none }
def mutantNormalRow : OpenClaim := { program := "ytggflhbigolakaagreatdoor", sum := "bdfe65f25a2420bff0bb5fa74cb7dac16474fadeadfdbaf4457dce1728a1b0e3", func := "scoria/scorialaw15.MutantNormal", spec := "mutantNormal", inPlace := ["internal/bytealg.IndexByteString", "internal/bytealg.IndexString"], unfollowed := true, recurses := true, named := ["unicode/utf8.first", "unicode/utf8.acceptRanges", "internal/bytealg.MaxLen"], apart := false, laid := [("unicode/utf8.acceptRanges", laid_unicode_utf8_acceptRanges), ("unicode/utf8.first", laid_unicode_utf8_first)] }
def MutantNormalSaid : Prop := mutantNormalRow.holds Tryz.pinned (OpenSpec.ofChange mutantNormalSpec)

/-- ITS FALSE NEIGHBOUR: 'it returns false'. Refute it at one input. -/
def mutantNormalWrong : ChangeSpec := { name := "mutantNormal", fn := fun _ => fun
  | [d1, d2, d3, d4, d5] => { results := [.lit (.bool false)], args := [d1, d2, d3, d4, d5] }
  | _ => none }
def MutantNormalWrongFalsely : Prop := mutantNormalRow.holds Tryz.pinned (OpenSpec.ofChange mutantNormalWrong)

/-- 'scorialaw15.MutantWhole': WHATEVER THE INPUT: true; the input reads as it did. -/
def mutantWholeSpec : ChangeSpec := { name := "mutantWhole", fn := fun _ => fun
  | [d1, d2, d3, d4] => { results := [.lit (.bool true)], args := [d1, d2, d3, d4] }
  | _ => none }
def mutantWholeRow : OpenClaim := { program := "ytggflhbigolakaagreatdoor", sum := "bdfe65f25a2420bff0bb5fa74cb7dac16474fadeadfdbaf4457dce1728a1b0e3", func := "scoria/scorialaw15.MutantWhole", spec := "mutantWhole", inPlace := ["internal/bytealg.IndexByteString", "internal/bytealg.IndexString"], unfollowed := true, recurses := true, named := ["unicode/utf8.first", "unicode/utf8.acceptRanges", "internal/bytealg.MaxLen"], apart := false, laid := [("unicode/utf8.acceptRanges", laid_unicode_utf8_acceptRanges), ("unicode/utf8.first", laid_unicode_utf8_first)] }
def MutantWholeSaid : Prop := mutantWholeRow.holds Tryz.pinned (OpenSpec.ofChange mutantWholeSpec)

/-- ITS FALSE NEIGHBOUR: 'it returns false'. Refute it at one input. -/
def mutantWholeWrong : ChangeSpec := { name := "mutantWhole", fn := fun _ => fun
  | [d1, d2, d3, d4] => { results := [.lit (.bool false)], args := [d1, d2, d3, d4] }
  | _ => none }
def MutantWholeWrongFalsely : Prop := mutantWholeRow.holds Tryz.pinned (OpenSpec.ofChange mutantWholeWrong)

/- THE SECOND FORM. 'bulk': how many values and letters a reading holds, each counted each time it is reached (what is shared counts as often as it is met; a slice's spare places count too). A statement '..UptoSaid' is the law's where the arguments, and the package variables that the reading takes, are together of bulk at most 1048576: NARROWER than '..Said'. Prove '..Said' where nothing that the law and all that it calls make is longer than what came in: it says more and counts as full. Else prove '..UptoSaid'. A law counts once. -/
mutual
def uptoBulk {H : Type} : DataW H → Nat
  | .lit (.string bytes) => bytes.length + 1
  | .lit _ => 1
  | .nil => 1
  | .ptr d => uptoBulk d + 1
  | .slice elems spare => uptoBulkAll elems + uptoBulkAll spare + 1
  | .agg parts => uptoBulkAll parts + 1
  | .iface _ d => uptoBulk d + 1
  | .map entries => uptoBulkEntries entries + 1
  | .held _ => 1
def uptoBulkAll {H : Type} : List (DataW H) → Nat
  | [] => 0
  | d :: r => uptoBulk d + uptoBulkAll r
def uptoBulkEntries {H : Type} : List (Lit × DataW H) → Nat
  | [] => 0
  | x :: r => uptoBulkEntry x + uptoBulkEntries r
def uptoBulkEntry {H : Type} : Lit × DataW H → Nat
  | (.string bytes, d) => bytes.length + uptoBulk d + 1
  | (_, d) => uptoBulk d + 1
 end
def uptoSmall : (H : Type) → List (DataW H) → Bool := fun _ ds => decide (uptoBulkAll ds ≤ 1048576)
def OpenSpec.upto (s : _root_.Go.ChangeSpec) : _root_.Go.OpenSpec := { _root_.Go.OpenSpec.ofChange s with cond := some uptoSmall }

/-- 'scorialaw15.MutantMakes', WHERE WHAT IT READS IS OF BULK AT MOST 1048576: true; the input reads as it did. -/
def mutantMakesUptoRow : OpenClaim := { program := "ytggflhbigolakaagreatdoor", sum := "bdfe65f25a2420bff0bb5fa74cb7dac16474fadeadfdbaf4457dce1728a1b0e3", func := "scoria/scorialaw15.MutantMakes", spec := "mutantMakes", inPlace := ["internal/bytealg.IndexByteString", "internal/bytealg.IndexString"], unfollowed := true, recurses := true, named := ["unicode/utf8.first", "unicode/utf8.acceptRanges", "internal/bytealg.MaxLen"], apart := false, laid := [("unicode/utf8.acceptRanges", laid_unicode_utf8_acceptRanges), ("unicode/utf8.first", laid_unicode_utf8_first)], narrowed := true }
def MutantMakesUptoSaid : Prop := mutantMakesUptoRow.holds Tryz.pinned (OpenSpec.upto mutantMakesSpec)

/-- 'scorialaw15.MutantCompares', WHERE WHAT IT READS IS OF BULK AT MOST 1048576: true; the input reads as it did. -/
def mutantComparesUptoRow : OpenClaim := { program := "ytggflhbigolakaagreatdoor", sum := "bdfe65f25a2420bff0bb5fa74cb7dac16474fadeadfdbaf4457dce1728a1b0e3", func := "scoria/scorialaw15.MutantCompares", spec := "mutantCompares", inPlace := ["internal/bytealg.IndexByteString", "internal/bytealg.IndexString"], unfollowed := true, recurses := true, named := ["unicode/utf8.first", "unicode/utf8.acceptRanges", "internal/bytealg.MaxLen"], apart := false, laid := [("unicode/utf8.acceptRanges", laid_unicode_utf8_acceptRanges), ("unicode/utf8.first", laid_unicode_utf8_first)], narrowed := true }
def MutantComparesUptoSaid : Prop := mutantComparesUptoRow.holds Tryz.pinned (OpenSpec.upto mutantComparesSpec)

/-- 'scorialaw15.MutantAll', WHERE WHAT IT READS IS OF BULK AT MOST 1048576: true; the input reads as it did. -/
def mutantAllUptoRow : OpenClaim := { program := "ytggflhbigolakaagreatdoor", sum := "bdfe65f25a2420bff0bb5fa74cb7dac16474fadeadfdbaf4457dce1728a1b0e3", func := "scoria/scorialaw15.MutantAll", spec := "mutantAll", inPlace := ["internal/bytealg.IndexByteString", "internal/bytealg.IndexString"], unfollowed := true, recurses := true, named := ["unicode/utf8.first", "unicode/utf8.acceptRanges", "internal/bytealg.MaxLen"], apart := false, laid := [("unicode/utf8.acceptRanges", laid_unicode_utf8_acceptRanges), ("unicode/utf8.first", laid_unicode_utf8_first)], narrowed := true }
def MutantAllUptoSaid : Prop := mutantAllUptoRow.holds Tryz.pinned (OpenSpec.upto mutantAllSpec)

/-- 'scorialaw15.MutantApart', WHERE WHAT IT READS IS OF BULK AT MOST 1048576: true; the input reads as it did. -/
def mutantApartUptoRow : OpenClaim := { program := "ytggflhbigolakaagreatdoor", sum := "bdfe65f25a2420bff0bb5fa74cb7dac16474fadeadfdbaf4457dce1728a1b0e3", func := "scoria/scorialaw15.MutantApart", spec := "mutantApart", inPlace := ["internal/bytealg.IndexByteString", "internal/bytealg.IndexString"], unfollowed := true, recurses := true, named := ["unicode/utf8.first", "unicode/utf8.acceptRanges", "internal/bytealg.MaxLen"], apart := false, laid := [("unicode/utf8.acceptRanges", laid_unicode_utf8_acceptRanges), ("unicode/utf8.first", laid_unicode_utf8_first)], narrowed := true }
def MutantApartUptoSaid : Prop := mutantApartUptoRow.holds Tryz.pinned (OpenSpec.upto mutantApartSpec)

/-- 'scorialaw15.MutantBack', WHERE WHAT IT READS IS OF BULK AT MOST 1048576: true; the input reads as it did. -/
def mutantBackUptoRow : OpenClaim := { program := "ytggflhbigolakaagreatdoor", sum := "bdfe65f25a2420bff0bb5fa74cb7dac16474fadeadfdbaf4457dce1728a1b0e3", func := "scoria/scorialaw15.MutantBack", spec := "mutantBack", inPlace := ["internal/bytealg.IndexByteString", "internal/bytealg.IndexString"], unfollowed := true, recurses := true, named := ["unicode/utf8.first", "unicode/utf8.acceptRanges", "internal/bytealg.MaxLen"], apart := false, laid := [("unicode/utf8.acceptRanges", laid_unicode_utf8_acceptRanges), ("unicode/utf8.first", laid_unicode_utf8_first)], narrowed := true }
def MutantBackUptoSaid : Prop := mutantBackUptoRow.holds Tryz.pinned (OpenSpec.upto mutantBackSpec)

/-- 'scorialaw15.MutantNormal', WHERE WHAT IT READS IS OF BULK AT MOST 1048576: true; the input reads as it did. -/
def mutantNormalUptoRow : OpenClaim := { program := "ytggflhbigolakaagreatdoor", sum := "bdfe65f25a2420bff0bb5fa74cb7dac16474fadeadfdbaf4457dce1728a1b0e3", func := "scoria/scorialaw15.MutantNormal", spec := "mutantNormal", inPlace := ["internal/bytealg.IndexByteString", "internal/bytealg.IndexString"], unfollowed := true, recurses := true, named := ["unicode/utf8.first", "unicode/utf8.acceptRanges", "internal/bytealg.MaxLen"], apart := false, laid := [("unicode/utf8.acceptRanges", laid_unicode_utf8_acceptRanges), ("unicode/utf8.first", laid_unicode_utf8_first)], narrowed := true }
def MutantNormalUptoSaid : Prop := mutantNormalUptoRow.holds Tryz.pinned (OpenSpec.upto mutantNormalSpec)

/-- 'scorialaw15.MutantWhole', WHERE WHAT IT READS IS OF BULK AT MOST 1048576: true; the input reads as it did. -/
def mutantWholeUptoRow : OpenClaim := { program := "ytggflhbigolakaagreatdoor", sum := "bdfe65f25a2420bff0bb5fa74cb7dac16474fadeadfdbaf4457dce1728a1b0e3", func := "scoria/scorialaw15.MutantWhole", spec := "mutantWhole", inPlace := ["internal/bytealg.IndexByteString", "internal/bytealg.IndexString"], unfollowed := true, recurses := true, named := ["unicode/utf8.first", "unicode/utf8.acceptRanges", "internal/bytealg.MaxLen"], apart := false, laid := [("unicode/utf8.acceptRanges", laid_unicode_utf8_acceptRanges), ("unicode/utf8.first", laid_unicode_utf8_first)], narrowed := true }
def MutantWholeUptoSaid : Prop := mutantWholeUptoRow.holds Tryz.pinned (OpenSpec.upto mutantWholeSpec)

end Rows
end Go.Proofs.YtggflhbigolakaaGreatDoor
