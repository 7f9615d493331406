/-
  No cell of these rows narrows 'for every input' (looked for: loops, veiled, ifaces, maps, wideKeys, modest, calm, conditions, laid).
  DERIVED. THE GIVEN ROWS OF THIS SEAT. 4 by the template 'for every input the law returns true; each argument reads behind the call as it read before'; 0 by the template 'total and deterministic' (their statements: YtgenkkejlggmnaaTotals.lean).
  GIVEN WITH THE SEED: the statements are not yours to turn. If you find one false, say at which input.
  Laid BY PROGRAM, IN A SANDBOX (cutbox-rows.mjs): the forced cells as the released guide's own fill.sh prints them over the translation b13b8e84d5563df6… (all of the seat's roots in one cut). By AI agents, Wed Nov 11 2026. No macro, syntax, notation, axiom, sorry.
-/
import Derived.Test.YtgenkkejlggmnaaChecked
import GoSem.Claim
import GoSem.ClaimJoined
import GoSem.ClaimMapViews
import Derived.JoinedTies
import Derived.KernelRfl
namespace Go.Proofs.Ytgenkkejlggmnaa
/- THE CELL 'sum', in the pinned program and in every row, IS THE sha256 OF THE DUMP (.gsa) THAT YtgenkkejlggmnaaProg.lean LOADS. Nothing in Lean hashes anything: it is a label: what it is worth is what the hold of that sum in a sandbox is worth. -/
noncomputable def Try.pinned : Pinned := { name := "ytgenkkejlggmnaa", sum := "b13b8e84d5563df6bd1622fc89f3e6aa19bd201ac2ec5a5c24a45daef1cc1235", checked := Try.checked }
namespace Rows
def none {H : Type} : Left H := { results := [], args := [] }

/-- 'scorialaw44.BisectPast': WHATEVER THE INPUT: true; the input reads as it did. -/
def bisectPastSpec : ChangeSpec := { name := "bisectPast", fn := fun _ => fun
  | [d1, d2, d3, d4, d5] => { results := [.lit (.bool true)], args := [d1, d2, d3, d4, d5] }
  | _ => none }
def bisectPastRow : OpenClaim := { program := "ytgenkkejlggmnaa", sum := "b13b8e84d5563df6bd1622fc89f3e6aa19bd201ac2ec5a5c24a45daef1cc1235", func := "scoria/scorialaw44.BisectPast", spec := "bisectPast", unfollowed := true, recurses := true, apart := false }
def BisectPastSaid : Prop := bisectPastRow.holds Try.pinned (OpenSpec.ofChange bisectPastSpec)

/-- ITS FALSE NEIGHBOUR: 'it returns false'. Refute it at one input. -/
def bisectPastWrong : ChangeSpec := { name := "bisectPast", fn := fun _ => fun
  | [d1, d2, d3, d4, d5] => { results := [.lit (.bool false)], args := [d1, d2, d3, d4, d5] }
  | _ => none }
def BisectPastWrongFalsely : Prop := bisectPastRow.holds Try.pinned (OpenSpec.ofChange bisectPastWrong)

/-- 'scorialaw44.BisectFirst': WHATEVER THE INPUT: true; the input reads as it did. -/
def bisectFirstSpec : ChangeSpec := { name := "bisectFirst", fn := fun _ => fun
  | [d1, d2, d3, d4, d5, d6] => { results := [.lit (.bool true)], args := [d1, d2, d3, d4, d5, d6] }
  | _ => none }
def bisectFirstRow : OpenClaim := { program := "ytgenkkejlggmnaa", sum := "b13b8e84d5563df6bd1622fc89f3e6aa19bd201ac2ec5a5c24a45daef1cc1235", func := "scoria/scorialaw44.BisectFirst", spec := "bisectFirst", unfollowed := true, recurses := true, apart := false }
def BisectFirstSaid : Prop := bisectFirstRow.holds Try.pinned (OpenSpec.ofChange bisectFirstSpec)

/-- ITS FALSE NEIGHBOUR: 'it returns false'. Refute it at one input. -/
def bisectFirstWrong : ChangeSpec := { name := "bisectFirst", fn := fun _ => fun
  | [d1, d2, d3, d4, d5, d6] => { results := [.lit (.bool false)], args := [d1, d2, d3, d4, d5, d6] }
  | _ => none }
def BisectFirstWrongFalsely : Prop := bisectFirstRow.holds Try.pinned (OpenSpec.ofChange bisectFirstWrong)

/-- 'scorialaw44.BisectGuilty': WHATEVER THE INPUT: true; the input reads as it did. -/
def bisectGuiltySpec : ChangeSpec := { name := "bisectGuilty", fn := fun _ => fun
  | [d1, d2, d3, d4] => { results := [.lit (.bool true)], args := [d1, d2, d3, d4] }
  | _ => none }
def bisectGuiltyRow : OpenClaim := { program := "ytgenkkejlggmnaa", sum := "b13b8e84d5563df6bd1622fc89f3e6aa19bd201ac2ec5a5c24a45daef1cc1235", func := "scoria/scorialaw44.BisectGuilty", spec := "bisectGuilty", unfollowed := true, recurses := true, apart := false }
def BisectGuiltySaid : Prop := bisectGuiltyRow.holds Try.pinned (OpenSpec.ofChange bisectGuiltySpec)

/-- ITS FALSE NEIGHBOUR: 'it returns false'. Refute it at one input. -/
def bisectGuiltyWrong : ChangeSpec := { name := "bisectGuilty", fn := fun _ => fun
  | [d1, d2, d3, d4] => { results := [.lit (.bool false)], args := [d1, d2, d3, d4] }
  | _ => none }
def BisectGuiltyWrongFalsely : Prop := bisectGuiltyRow.holds Try.pinned (OpenSpec.ofChange bisectGuiltyWrong)

/-- 'scorialaw44.BisectFewer': WHATEVER THE INPUT: true; the input reads as it did. -/
def bisectFewerSpec : ChangeSpec := { name := "bisectFewer", fn := fun _ => fun
  | [d1, d2, d3] => { results := [.lit (.bool true)], args := [d1, d2, d3] }
  | _ => none }
def bisectFewerRow : OpenClaim := { program := "ytgenkkejlggmnaa", sum := "b13b8e84d5563df6bd1622fc89f3e6aa19bd201ac2ec5a5c24a45daef1cc1235", func := "scoria/scorialaw44.BisectFewer", spec := "bisectFewer", unfollowed := true, recurses := true, apart := false }
def BisectFewerSaid : Prop := bisectFewerRow.holds Try.pinned (OpenSpec.ofChange bisectFewerSpec)

/-- ITS FALSE NEIGHBOUR: 'it returns false'. Refute it at one input. -/
def bisectFewerWrong : ChangeSpec := { name := "bisectFewer", fn := fun _ => fun
  | [d1, d2, d3] => { results := [.lit (.bool false)], args := [d1, d2, d3] }
  | _ => none }
def BisectFewerWrongFalsely : Prop := bisectFewerRow.holds Try.pinned (OpenSpec.ofChange bisectFewerWrong)

/- THE SECOND FORM. 'bulk': how many values and letters a reading holds, each counted each time it is reached (what is shared counts as often as it is met; a slice's spare places count too). A statement '..UptoSaid' is the law's where the arguments, and the package variables that the reading takes, are together of bulk at most 1048576: NARROWER than '..Said'. Prove '..Said' where nothing that the law and all that it calls make is longer than what came in: it says more and counts as full. Else prove '..UptoSaid'. A law counts once. -/
mutual
def uptoBulk {H : Type} : DataW H → Nat
  | .lit (.string bytes) => bytes.length + 1
  | .lit _ => 1
  | .nil => 1
  | .ptr d => uptoBulk d + 1
  | .slice elems spare => uptoBulkAll elems + uptoBulkAll spare + 1
  | .agg parts => uptoBulkAll parts + 1
  | .iface _ d => uptoBulk d + 1
  | .map entries => uptoBulkEntries entries + 1
  | .held _ => 1
def uptoBulkAll {H : Type} : List (DataW H) → Nat
  | [] => 0
  | d :: r => uptoBulk d + uptoBulkAll r
def uptoBulkEntries {H : Type} : List (Lit × DataW H) → Nat
  | [] => 0
  | x :: r => uptoBulkEntry x + uptoBulkEntries r
def uptoBulkEntry {H : Type} : Lit × DataW H → Nat
  | (.string bytes, d) => bytes.length + uptoBulk d + 1
  | (_, d) => uptoBulk d + 1
 end
def uptoSmall : (H : Type) → List (DataW H) → Bool := fun _ ds => decide (uptoBulkAll ds ≤ 1048576)
def OpenSpec.upto (s : _root_.Go.ChangeSpec) : _root_.Go.OpenSpec := { _root_.Go.OpenSpec.ofChange s with cond := some uptoSmall }

/-- 'scorialaw44.BisectPast', WHERE WHAT IT READS IS OF BULK AT MOST 1048576: true; the input reads as it did. -/
def bisectPastUptoRow : OpenClaim := { program := "ytgenkkejlggmnaa", sum := "b13b8e84d5563df6bd1622fc89f3e6aa19bd201ac2ec5a5c24a45daef1cc1235", func := "scoria/scorialaw44.BisectPast", spec := "bisectPast", unfollowed := true, recurses := true, apart := false, narrowed := true }
def BisectPastUptoSaid : Prop := bisectPastUptoRow.holds Try.pinned (OpenSpec.upto bisectPastSpec)

/-- 'scorialaw44.BisectFirst', WHERE WHAT IT READS IS OF BULK AT MOST 1048576: true; the input reads as it did. -/
def bisectFirstUptoRow : OpenClaim := { program := "ytgenkkejlggmnaa", sum := "b13b8e84d5563df6bd1622fc89f3e6aa19bd201ac2ec5a5c24a45daef1cc1235", func := "scoria/scorialaw44.BisectFirst", spec := "bisectFirst", unfollowed := true, recurses := true, apart := false, narrowed := true }
def BisectFirstUptoSaid : Prop := bisectFirstUptoRow.holds Try.pinned (OpenSpec.upto bisectFirstSpec)

/-- 'scorialaw44.BisectGuilty', WHERE WHAT IT READS IS OF BULK AT MOST 1048576: true; the input reads as it did. -/
def bisectGuiltyUptoRow : OpenClaim := { program := "ytgenkkejlggmnaa", sum := "b13b8e84d5563df6bd1622fc89f3e6aa19bd201ac2ec5a5c24a45daef1cc1235", func := "scoria/scorialaw44.BisectGuilty", spec := "bisectGuilty", unfollowed := true, recurses := true, apart := false, narrowed := true }
def BisectGuiltyUptoSaid : Prop := bisectGuiltyUptoRow.holds Try.pinned (OpenSpec.upto bisectGuiltySpec)

/-- 'scorialaw44.BisectFewer', WHERE WHAT IT READS IS OF BULK AT MOST 1048576: true; the input reads as it did. -/
def bisectFewerUptoRow : OpenClaim := { program := "ytgenkkejlggmnaa", sum := "b13b8e84d5563df6bd1622fc89f3e6aa19bd201ac2ec5a5c24a45daef1cc1235", func := "scoria/scorialaw44.BisectFewer", spec := "bisectFewer", unfollowed := true, recurses := true, apart := false, narrowed := true }
def BisectFewerUptoSaid : Prop := bisectFewerUptoRow.holds Try.pinned (OpenSpec.upto bisectFewerSpec)

end Rows
end Go.Proofs.Ytgenkkejlggmnaa
