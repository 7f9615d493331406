import Derived.Test.YtblfpppnkdokdaaGreatDoorG
set_option maxRecDepth 100000
set_option linter.unusedVariables false
namespace Go.Proofs.YtblfpppnkdokdaaGreatDoor
open Go.AM
def oL0 : List AV := [.str ⟨#[112, 108, 117, 115]⟩, .int .i64 9, .int .i64 0, .int .i64 0, .sl true [[.int .i64 28, .int .i64 0, .int .i64 0, .sl true []], [.int .i64 28, .int .i64 1, .int .i64 0, .sl true []]], .int .i64 9, .int .i64 1, .int .i64 0, .sl true [[.int .i64 28, .int .i64 0, .int .i64 0, .sl true []], [.int .i64 28, .int .i64 1, .int .i64 0, .sl true []]], .int .i64 1]
def oV0 : AV := .agg oL0
def oL1 : List AV := [.str ⟨#[109, 105, 110, 117, 115]⟩, .int .i64 9, .int .i64 1, .int .i64 0, .sl true [[.int .i64 28, .int .i64 0, .int .i64 0, .sl true []], [.int .i64 28, .int .i64 1, .int .i64 0, .sl true []]], .int .i64 9, .int .i64 0, .int .i64 0, .sl true [[.int .i64 28, .int .i64 0, .int .i64 0, .sl true []], [.int .i64 28, .int .i64 1, .int .i64 0, .sl true []]], .int .i64 0]
def oV1 : AV := .agg oL1
def oL2 : List AV := [.str ⟨#[108, 101, 115, 115]⟩, .int .i64 9, .int .i64 10, .int .i64 0, .sl true [[.int .i64 28, .int .i64 0, .int .i64 0, .sl true []], [.int .i64 28, .int .i64 1, .int .i64 0, .sl true []]], .int .i64 9, .int .i64 11, .int .i64 0, .sl true [[.int .i64 28, .int .i64 0, .int .i64 0, .sl true []], [.int .i64 28, .int .i64 1, .int .i64 0, .sl true []]], .int .i64 3]
def oV2 : AV := .agg oL2
def oL3 : List AV := [.str ⟨#[115, 97, 109, 101]⟩, .int .i64 9, .int .i64 11, .int .i64 0, .sl true [[.int .i64 28, .int .i64 0, .int .i64 0, .sl true []], [.int .i64 28, .int .i64 1, .int .i64 0, .sl true []]], .int .i64 9, .int .i64 10, .int .i64 0, .sl true [[.int .i64 28, .int .i64 0, .int .i64 0, .sl true []], [.int .i64 28, .int .i64 1, .int .i64 0, .sl true []]], .int .i64 2]
def oV3 : AV := .agg oL3
def oL4 : List AV := [.str ⟨#[98, 111, 116, 104]⟩, .int .i64 9, .int .i64 12, .int .i64 0, .sl true [[.int .i64 28, .int .i64 0, .int .i64 0, .sl true []], [.int .i64 28, .int .i64 1, .int .i64 0, .sl true []]], .int .i64 9, .int .i64 13, .int .i64 0, .sl true [[.int .i64 28, .int .i64 0, .int .i64 0, .sl true []], [.int .i64 28, .int .i64 1, .int .i64 0, .sl true []]], .int .i64 5]
def oV4 : AV := .agg oL4
def oL5 : List AV := [.str ⟨#[115, 111, 109, 101]⟩, .int .i64 9, .int .i64 13, .int .i64 0, .sl true [[.int .i64 28, .int .i64 0, .int .i64 0, .sl true []], [.int .i64 28, .int .i64 1, .int .i64 0, .sl true []]], .int .i64 9, .int .i64 12, .int .i64 0, .sl true [[.int .i64 28, .int .i64 0, .int .i64 0, .sl true []], [.int .i64 28, .int .i64 1, .int .i64 0, .sl true []]], .int .i64 4]
def oV5 : AV := .agg oL5
def oL6 : List AV := [.str ⟨#[110, 101, 103, 97, 116, 101]⟩, .int .i64 17, .int .i64 0, .int .i64 0, .sl true [[.int .i64 28, .int .i64 0, .int .i64 0, .sl true []], [.int .i64 28, .int .i64 1, .int .i64 0, .sl true []], [.int .i64 28, .int .i64 2, .int .i64 0, .sl true []]], .int .i64 17, .int .i64 0, .int .i64 0, .sl true [[.int .i64 10, .int .i64 0, .int .i64 0, .sl true [[.int .i64 28, .int .i64 0, .int .i64 0, .sl true []]]], [.int .i64 28, .int .i64 1, .int .i64 0, .sl true []], [.int .i64 28, .int .i64 2, .int .i64 0, .sl true []]], .int .i64 7]
def oV6 : AV := .agg oL6
def oL7 : List AV := [.str ⟨#[97, 102, 102, 105, 114, 109]⟩, .int .i64 17, .int .i64 0, .int .i64 0, .sl true [[.int .i64 10, .int .i64 0, .int .i64 0, .sl true [[.int .i64 28, .int .i64 0, .int .i64 0, .sl true []]]], [.int .i64 28, .int .i64 1, .int .i64 0, .sl true []], [.int .i64 28, .int .i64 2, .int .i64 0, .sl true []]], .int .i64 17, .int .i64 0, .int .i64 0, .sl true [[.int .i64 28, .int .i64 0, .int .i64 0, .sl true []], [.int .i64 28, .int .i64 1, .int .i64 0, .sl true []], [.int .i64 28, .int .i64 2, .int .i64 0, .sl true []]], .int .i64 6]
def oV7 : AV := .agg oL7
def oL8 : List AV := [.str ⟨#[115, 119, 97, 112]⟩, .int .i64 17, .int .i64 0, .int .i64 0, .sl true [[.int .i64 28, .int .i64 0, .int .i64 0, .sl true []], [.int .i64 28, .int .i64 1, .int .i64 0, .sl true []], [.int .i64 28, .int .i64 2, .int .i64 0, .sl true []]], .int .i64 17, .int .i64 0, .int .i64 0, .sl true [[.int .i64 28, .int .i64 0, .int .i64 0, .sl true []], [.int .i64 28, .int .i64 2, .int .i64 0, .sl true []], [.int .i64 28, .int .i64 1, .int .i64 0, .sl true []]], .int .i64 8]
def oV8 : AV := .agg oL8
def oL9 : List AV := [.str ⟨#[116, 117, 114, 110]⟩, .int .i64 9, .int .i64 1, .int .i64 0, .sl true [[.int .i64 28, .int .i64 0, .int .i64 0, .sl true []], [.int .i64 28, .int .i64 1, .int .i64 0, .sl true []]], .int .i64 9, .int .i64 1, .int .i64 0, .sl true [[.int .i64 28, .int .i64 1, .int .i64 0, .sl true []], [.int .i64 28, .int .i64 0, .int .i64 0, .sl true []]], .int .i64 9]
def oV9 : AV := .agg oL9
def QR : List AV := [.str ⟨#[114, 105, 115, 101]⟩, .int .i64 5, .int .i64 0, .int .i64 0, .sl true [], .int .i64 5, .int .i64 1, .int .i64 0, .sl true [], .int .i64 11]
def vV : AV := .agg QR
def QQ : List AV := [.str ⟨#[102, 97, 108, 108]⟩, .int .i64 5, .int .i64 1, .int .i64 0, .sl true [], .int .i64 5, .int .i64 0, .int .i64 0, .sl true [], .int .i64 10]
def vU : AV := .agg QQ
def QP : List AV := [.str ⟨#[111, 110, 101]⟩, .int .i64 4, .int .i64 0, .int .i64 0, .sl true [], .int .i64 4, .int .i64 1, .int .i64 0, .sl true [], .int .i64 13]
def vT : AV := .agg QP
def QO : List AV := [.str ⟨#[122, 101, 114, 111]⟩, .int .i64 4, .int .i64 1, .int .i64 0, .sl true [], .int .i64 4, .int .i64 0, .int .i64 0, .sl true [], .int .i64 12]
def vS : AV := .agg QO
def QN : List AV := [.str ⟨#[116, 105, 109, 101, 115]⟩, .int .i64 9, .int .i64 2, .int .i64 0, .sl true [[.int .i64 28, .int .i64 0, .int .i64 0, .sl true []], [.int .i64 28, .int .i64 1, .int .i64 0, .sl true []]], .int .i64 9, .int .i64 3, .int .i64 0, .sl true [[.int .i64 28, .int .i64 0, .int .i64 0, .sl true []], [.int .i64 28, .int .i64 1, .int .i64 0, .sl true []]], .int .i64 15]
def vR : AV := .agg QN
def QM : List AV := [.str ⟨#[100, 105, 118, 105, 100, 101]⟩, .int .i64 9, .int .i64 3, .int .i64 0, .sl true [[.int .i64 28, .int .i64 0, .int .i64 0, .sl true []], [.int .i64 28, .int .i64 1, .int .i64 0, .sl true []]], .int .i64 9, .int .i64 2, .int .i64 0, .sl true [[.int .i64 28, .int .i64 0, .int .i64 0, .sl true []], [.int .i64 28, .int .i64 1, .int .i64 0, .sl true []]], .int .i64 14]
def vQ : AV := .agg QM
def QL : List AV := [.str ⟨#[97, 110, 100]⟩, .int .i64 9, .int .i64 5, .int .i64 0, .sl true [[.int .i64 28, .int .i64 0, .int .i64 0, .sl true []], [.int .i64 28, .int .i64 1, .int .i64 0, .sl true []]], .int .i64 9, .int .i64 6, .int .i64 0, .sl true [[.int .i64 28, .int .i64 0, .int .i64 0, .sl true []], [.int .i64 28, .int .i64 1, .int .i64 0, .sl true []]], .int .i64 17]
def vO : AV := .agg QL
def QK : List AV := [.str ⟨#[111, 114]⟩, .int .i64 9, .int .i64 6, .int .i64 0, .sl true [[.int .i64 28, .int .i64 0, .int .i64 0, .sl true []], [.int .i64 28, .int .i64 1, .int .i64 0, .sl true []]], .int .i64 9, .int .i64 5, .int .i64 0, .sl true [[.int .i64 28, .int .i64 0, .int .i64 0, .sl true []], [.int .i64 28, .int .i64 1, .int .i64 0, .sl true []]], .int .i64 16]
def vN : AV := .agg QK
def QJ : List AV := [.str ⟨#[108, 101, 102, 116]⟩, .int .i64 9, .int .i64 8, .int .i64 0, .sl true [[.int .i64 28, .int .i64 0, .int .i64 0, .sl true []], [.int .i64 28, .int .i64 1, .int .i64 0, .sl true []]], .int .i64 9, .int .i64 9, .int .i64 0, .sl true [[.int .i64 28, .int .i64 0, .int .i64 0, .sl true []], [.int .i64 28, .int .i64 1, .int .i64 0, .sl true []]], .int .i64 19]
def vM : AV := .agg QJ
def QI : List AV := [.str ⟨#[114, 105, 103, 104, 116]⟩, .int .i64 9, .int .i64 9, .int .i64 0, .sl true [[.int .i64 28, .int .i64 0, .int .i64 0, .sl true []], [.int .i64 28, .int .i64 1, .int .i64 0, .sl true []]], .int .i64 9, .int .i64 8, .int .i64 0, .sl true [[.int .i64 28, .int .i64 0, .int .i64 0, .sl true []], [.int .i64 28, .int .i64 1, .int .i64 0, .sl true []]], .int .i64 18]
def vL : AV := .agg QI
def QH : List AV := [.str ⟨#[104, 117, 115, 104]⟩, .int .i64 24, .int .i64 0, .int .i64 0, .sl true [[.int .i64 28, .int .i64 0, .int .i64 0, .sl true []]], .int .i64 25, .int .i64 0, .int .i64 0, .sl true [], .int .i64 (-1)]
def vK : AV := .agg QH
def QG : List AV := [.str ⟨#[111, 110, 99, 101]⟩, .int .i64 18, .int .i64 0, .int .i64 0, .sl true [[.int .i64 28, .int .i64 0, .int .i64 0, .sl true []], [.int .i64 28, .int .i64 1, .int .i64 0, .sl true []]], .int .i64 17, .int .i64 0, .int .i64 0, .sl true [[.int .i64 28, .int .i64 0, .int .i64 0, .sl true []], [.int .i64 28, .int .i64 1, .int .i64 0, .sl true []], [.int .i64 13, .int .i64 0, .int .i64 0, .sl true []]], .int .i64 (-1)]
def vJ : AV := .agg QG
def QF : List AV := [.str ⟨#[110, 101, 120, 116]⟩, .int .i64 7, .int .i64 (-100), .int .i64 0, .sl true [[.int .i64 28, .int .i64 0, .int .i64 0, .sl true []]], .int .i64 7, .int .i64 (-100), .int .i64 0, .sl true [[.int .i64 9, .int .i64 0, .int .i64 0, .sl true [[.int .i64 28, .int .i64 0, .int .i64 0, .sl true []], [.int .i64 4, .int .i64 1, .int .i64 0, .sl true []]]]], .int .i64 23]
def vI : AV := .agg QF
def QE : List AV := [.str ⟨#[98, 97, 99, 107]⟩, .int .i64 7, .int .i64 (-100), .int .i64 0, .sl true [[.int .i64 9, .int .i64 0, .int .i64 0, .sl true [[.int .i64 28, .int .i64 0, .int .i64 0, .sl true []], [.int .i64 4, .int .i64 1, .int .i64 0, .sl true []]]]], .int .i64 7, .int .i64 (-100), .int .i64 0, .sl true [[.int .i64 28, .int .i64 0, .int .i64 0, .sl true []]], .int .i64 22]
def vH : AV := .agg QE
def nV0 : AV := .agg [.int .i64 17, .int .i64 0, .int .i64 0, .sl false [[.int .i64 9, .int .i64 10, .int .i64 0, .sl false [[.int .i64 9, .int .i64 0, .int .i64 0, .sl false [[.int .i64 6, .int .i64 0, .int .i64 0, .sl true []], [.int .i64 4, .int .i64 1, .int .i64 0, .sl true []]]], [.int .i64 4, .int .i64 2, .int .i64 0, .sl true []]]], [.int .i64 13, .int .i64 0, .int .i64 0, .sl false [[.int .i64 25, .int .i64 0, .int .i64 0, .sl true []]]], [.int .i64 13, .int .i64 0, .int .i64 0, .sl true []]]]
def nV1 : AV := .agg [.int .i64 9, .int .i64 10, .int .i64 0, .sl false [[.int .i64 9, .int .i64 0, .int .i64 0, .sl false [[.int .i64 6, .int .i64 0, .int .i64 0, .sl true []], [.int .i64 4, .int .i64 1, .int .i64 0, .sl true []]]], [.int .i64 4, .int .i64 2, .int .i64 0, .sl true []]]]
def nV2 : AV := .agg [.int .i64 9, .int .i64 0, .int .i64 0, .sl false [[.int .i64 6, .int .i64 0, .int .i64 0, .sl true []], [.int .i64 4, .int .i64 1, .int .i64 0, .sl true []]]]
def nV3 : AV := .agg [.int .i64 6, .int .i64 0, .int .i64 0, .sl true []]
def nV4 : AV := .agg [.int .i64 4, .int .i64 1, .int .i64 0, .sl true []]
def nV5 : AV := .agg [.int .i64 4, .int .i64 2, .int .i64 0, .sl true []]
def nV6 : AV := .agg [.int .i64 13, .int .i64 0, .int .i64 0, .sl false [[.int .i64 25, .int .i64 0, .int .i64 0, .sl true []]]]
def nV7 : AV := .agg [.int .i64 25, .int .i64 0, .int .i64 0, .sl true []]
def nV8 : AV := .agg [.int .i64 13, .int .i64 0, .int .i64 0, .sl true []]
def jO : AV := .agg [.int .i64 17, .int .i64 0, .int .i64 0, .sl true [[.int .i64 9, .int .i64 10, .int .i64 0, .sl true [[.int .i64 9, .int .i64 0, .int .i64 0, .sl true [[.int .i64 6, .int .i64 0, .int .i64 0, .sl true []], [.int .i64 4, .int .i64 1, .int .i64 0, .sl true []]]], [.int .i64 4, .int .i64 2, .int .i64 0, .sl true []]]], [.int .i64 13, .int .i64 0, .int .i64 0, .sl true [[.int .i64 25, .int .i64 0, .int .i64 0, .sl true []]]], [.int .i64 13, .int .i64 0, .int .i64 0, .sl true []]]]
def y0 : AV := .sl true [oL0, oL1, oL2, oL3, oL4, oL5, oL6, oL7, oL8, oL9, QR, QQ, QP, QO, QN, QM, QL, QK, QJ, QI, QH, QG, QF, QE]
def zV : AV := .tup [.agg [.int .i64 0, .int .i64 0, .int .i64 0, .sl true []], .bool false]
noncomputable def QC (K : List FuncId) (T0 : List (FuncId × List AV × AV)) (e : FuncId × List AV × AV) : Bool := inR aB e.2.2 && match KH Tryz.prog G0 60 T0 K 60 e.1 e.2.1 [] with
 | some (v, []) => eqA v e.2.2
 | _ => false
def Runs (T : List (FuncId × List AV × AV)) : Prop := ∀ e ∈ T, Pure Tryz.prog G0 e.1 e.2.1 e.2.2
theorem bT (K : List FuncId) {T0 : List (FuncId × List AV × AV)} (hT : Runs T0) {T : List (FuncId × List AV × AV)} (h : T.all (QC K T0) = true) : Runs T := fun e he => by
 have h1 := List.all_eq_true.1 h e he
 simp only [QC, Bool.and_eq_true] at h1
 obtain ⟨h2, h3⟩ := h1
 split at h3
 ·rename_i v hv
  have := nS _ _ h3
  subst this
  exact fS 60 60 _ K hT hG0 (by kernel_rfl) h2 hv
 ·cases h3
theorem Runs.app {a b : List (FuncId × List AV × AV)} (ha : Runs a) (hb : Runs b) : Runs (a ++ b) := fun e he => (List.mem_append.1 he).elim (ha e) (hb e)
theorem r0 : Pure Tryz.prog G0 49 [] (y0) := fS 60 60 _ [] cQ hG0 (by kernel_rfl) (by kernel_rfl) (by kernel_rfl)
def tP : List (FuncId × List AV × AV) := [(62, [jO, .sl false []], .tup [nV0, .bool true]), (62, [jO, .sl false [[.int .i64 0]]], .tup [nV1, .bool true]), (62, [jO, .sl false [[.int .i64 0], [.int .i64 0]]], .tup [nV2, .bool true]), (62, [jO, .sl false [[.int .i64 0], [.int .i64 0], [.int .i64 0]]], .tup [nV3, .bool true]), (62, [jO, .sl false [[.int .i64 0], [.int .i64 0], [.int .i64 1]]], .tup [nV4, .bool true]), (62, [jO, .sl false [[.int .i64 0], [.int .i64 1]]], .tup [nV5, .bool true]), (62, [jO, .sl false [[.int .i64 1]]], .tup [nV6, .bool true]), (62, [jO, .sl false [[.int .i64 1], [.int .i64 0]]], .tup [nV7, .bool true]), (62, [jO, .sl false [[.int .i64 2]]], .tup [nV8, .bool true])]
end Go.Proofs.YtblfpppnkdokdaaGreatDoor
