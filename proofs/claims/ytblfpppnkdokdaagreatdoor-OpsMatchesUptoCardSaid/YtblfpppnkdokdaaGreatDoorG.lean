import Derived.Test.YtblfpppnkdokdaaGreatDoorTypes
import Derived.Test.YtblfpppnkdokdaaGreatDoorAC
set_option linter.unusedVariables false
namespace Go.Proofs.YtblfpppnkdokdaaGreatDoor
open Go.AM
def PF : List AV := [.str ⟨#[112, 108, 117, 115]⟩, .int .i64 0, .int .i64 0, .int .i64 1, .int .i64 1, .str ⟨#[109, 105, 110, 117, 115]⟩, .int .i64 1, .int .i64 1, .int .i64 0, .int .i64 0, .str ⟨#[108, 101, 115, 115]⟩, .int .i64 2, .int .i64 10, .int .i64 11, .int .i64 3, .str ⟨#[115, 97, 109, 101]⟩, .int .i64 3, .int .i64 11, .int .i64 10, .int .i64 2, .str ⟨#[98, 111, 116, 104]⟩, .int .i64 4, .int .i64 12, .int .i64 13, .int .i64 5, .str ⟨#[115, 111, 109, 101]⟩, .int .i64 5, .int .i64 13, .int .i64 12, .int .i64 4, .str ⟨#[116, 105, 109, 101, 115]⟩, .int .i64 14, .int .i64 2, .int .i64 3, .int .i64 15, .str ⟨#[100, 105, 118, 105, 100, 101]⟩, .int .i64 15, .int .i64 3, .int .i64 2, .int .i64 14, .str ⟨#[97, 110, 100]⟩, .int .i64 16, .int .i64 5, .int .i64 6, .int .i64 17, .str ⟨#[111, 114]⟩, .int .i64 17, .int .i64 6, .int .i64 5, .int .i64 16, .str ⟨#[108, 101, 102, 116]⟩, .int .i64 18, .int .i64 8, .int .i64 9, .int .i64 19, .str ⟨#[114, 105, 103, 104, 116]⟩, .int .i64 19, .int .i64 9, .int .i64 8, .int .i64 18]
def G0 : Nat → Option (List AV)
 | 0 => some PF
 | _ => none
theorem hG0 : ∀ g cs, G0 g = some cs → inL aB cs = true := by
 intro g cs h
 match g, h with
 | 0, h => cases h; decide +kernel
end Go.Proofs.YtblfpppnkdokdaaGreatDoor
