import Derived.Test.YtpdibmopbpcfdaaDoorD0
import Derived.Test.YtpdibmopbpcfdaaDoorQ3
import Derived.ProofKit
import Derived.SizedLaws
import Derived.OpenShut
import Derived.LaidMore
import Derived.Lay
import Derived.Stop.Joined
set_option linter.unusedVariables false
set_option linter.unusedSimpArgs false
namespace Go.Proofs.YtpdibmopbpcfdaaDoor
open Go.AM
open Go.ChangeShapes Go.WideShapes Go.ChangeAt Go.RowKit

set_option maxRecDepth 100000
theorem opsCompares_met (os : Os) : laidMetH Tryd.prog Rows.opsComparesRow.laid ((World.laidAll Tryd.prog os Rows.opsComparesRow.laid).forCall (fun _ _ => 0) ⟨#[], #[.slice none 0 0, .slice none 0 0, .slice none 0 0, .int .i64 0, .int .i64 0, .slice none 0 0], []⟩).memory := by
  rw [MakeChecks.laidMetH_plain _ _ _ (by kernel_rfl)]
  exact laidMet_laidAll _ (by kernel_rfl) (by kernel_rfl)
theorem opsCompares_lifted (os : Os) (started : os.Started) (H : Type) (enc : TypeId × Value → H) :
    ReturnsInHanded {} Tryd.checked os 3 .any (fun w args => (Rows.opsComparesSpec.pre enc Tryd.prog Tryd.f3 [] false w args ∧ laidMetH Tryd.prog Rows.opsComparesRow.laid w) ∧ sizedMet enc Tryd.prog Tryd.f3 (OpenSpec.ofChange Rows.opsComparesSpec) false w args)
      (Rows.opsComparesSpec.post enc Tryd.prog Tryd.f3 false true false false) := by
  refine returnsInHanded_of_change_and (C := Tryd.checked) (X := fun w _ => laidMetH Tryd.prog Rows.opsComparesRow.laid w) (fun _ _ _ hh h => h.of_heap hh) own0 started (by kernel_rfl) Tryd.func3
    (ChangeSpec.witness_shaped (enc := enc) (C := Tryd.checked) (os := os) (X := fun w _ => laidMetH Tryd.prog Rows.opsComparesRow.laid w) false (World.laidAll Tryd.prog os Rows.opsComparesRow.laid) #[.slice none 0 0, .slice none 0 0, .slice none 0 0, .int .i64 0, .int .i64 0, .slice none 0 0] 8 (World.laidAll_os _ _ _) (World.shaped_of_ZipB (by kernel_rfl) (by kernel_rfl)) (by kernel_rfl) (by kernel_rfl) (by kernel_rfl) (opsCompares_met os)) ?_
  intro W base args ds gs before hval0 hW _ hsz0 hL _
  have hsz : (DataW.weightsEach Tryd.prog (Tryd.f3.params.toList ++ Rows.opsComparesSpec.plain.varTypes Tryd.prog) (ds ++ gs)).all (· ≤ reachBytes) = true := hsz0
  clear hsz0
  have hval : ∀ (j : Nat) t v, Tryd.f3.params[j]? = some t → args[j]? = some v → Value.okWide Tryd.prog W .any base t v := hval0
  have hW' := hW
  obtain ⟨p, q, hA0, hV, rfl, _, _⟩ := hW
  have hA : DataW.TrodAll enc Tryd.prog W 0 (fun _ => true) true Tryd.f3.params.toList args.toList ds p := hA0
  rw [Tryd.params3] at hA hval hsz
  obtain ⟨arr⟩ := args
  simp only at hA
  obtain ⟨v0, r0, d0, e0, p0, q0, h0, rfl, rfl, g0, hA0⟩ := trodAll_cons hA
  obtain ⟨v1, r1, d1, e1, p1, q1, h1, rfl, rfl, g1, hA1⟩ := trodAll_cons hA0
  obtain ⟨v2, r2, d2, e2, p2, q2, h2, rfl, rfl, g2, hA2⟩ := trodAll_cons hA1
  obtain ⟨v3, r3, d3, e3, p3, q3, h3, rfl, rfl, g3, hA3⟩ := trodAll_cons hA2
  obtain ⟨v4, r4, d4, e4, p4, q4, h4, rfl, rfl, g4, hA4⟩ := trodAll_cons hA3
  obtain ⟨v5, r5, d5, e5, p5, q5, h5, rfl, rfl, g5, hA5⟩ := trodAll_cons hA4
  obtain ⟨h6, rfl, rfl⟩ := trodAll_nil hA5
  subst h6 h5 h4 h3 h2 h1 h0
  obtain ⟨rfl, rfl⟩ := trodVars_none hV
  have b0 : ∀ x ∈ p0, x.block < W.heap.size := fun x hx => by simpa using hW'.lt x (by simp [hx])
  obtain ⟨l0, a0, s0, z0⟩ := rel_ints hsz (j := 0) rfl rfl (hval 0 22 v0 rfl rfl) g0 b0
  have b1 : ∀ x ∈ p1, x.block < W.heap.size := fun x hx => by simpa using hW'.lt x (by simp [hx])
  obtain ⟨l1, a1, s1, z1⟩ := rel_ints hsz (j := 1) rfl rfl (hval 1 22 v1 rfl rfl) g1 b1
  have b2 : ∀ x ∈ p2, x.block < W.heap.size := fun x hx => by simpa using hW'.lt x (by simp [hx])
  obtain ⟨l2, a2, s2, z2⟩ := rel_ints hsz (j := 2) rfl rfl (hval 2 22 v2 rfl rfl) g2 b2
  obtain ⟨n3, rfl, rfl, rfl, w3⟩ := open_int Tryd.underlying3 (hval 3 3 v3 rfl rfl) g3
  obtain ⟨n4, rfl, rfl, rfl, w4⟩ := open_int Tryd.underlying3 (hval 4 3 v4 rfl rfl) g4
  have b5 : ∀ x ∈ p5, x.block < W.heap.size := fun x hx => by simpa using hW'.lt x (by simp [hx])
  obtain ⟨l5, a5, s5, z5⟩ := rel_ints hsz (j := 5) rfl rfl (hval 5 22 v5 rfl rfl) g5 b5
  clear hA0 hval0
  refine (law_run (us := [v0, v1, v2, .int .i64 n3, .int .i64 n4, v5]) (opsCompares_law l0 l1 l2 n3 n4 l5 z0 z1 z2 s5) (inv_laid_opsCompares hL) (by simp only [RelL]; exact ⟨_, _, rfl, a0, ⟨_, _, rfl, a1, ⟨_, _, rfl, a2, ⟨_, _, rfl, rel_int, ⟨_, _, rfl, rel_int, ⟨_, _, rfl, a5, rfl⟩⟩⟩⟩⟩⟩)).mono fun e W' ⟨he, hb⟩ => ?_
  subst he
  exact ⟨_, rfl, _, _, _, [], _, [], hW', trodAll_mk1 (shut_bool Tryd.underlying4 true), (trodAll_cons_mk (Below.trod Tryd.laidOut (by kernel_rfl) (of_decide_eq_true (by kernel_rfl)) g0 hb b0) (trodAll_cons_mk (Below.trod Tryd.laidOut (by kernel_rfl) (of_decide_eq_true (by kernel_rfl)) g1 hb b1) (trodAll_cons_mk (Below.trod Tryd.laidOut (by kernel_rfl) (of_decide_eq_true (by kernel_rfl)) g2 hb b2) (trodAll_cons_mk (shut_int Tryd.underlying3 w3) (trodAll_cons_mk (shut_int Tryd.underlying3 w4) (trodAll_cons_mk (Below.trod Tryd.laidOut (by kernel_rfl) (of_decide_eq_true (by kernel_rfl)) g5 hb b5) (trodAll_nil_mk))))))), rfl, hb.frame _, fun h => by cases h⟩
theorem opsCompares_holds : Rows.OpsComparesSaid :=
  OpenClaim.holds_of_wide 3 Tryd.f3 rfl rfl rfl rfl rfl rfl rfl ⟨rfl, rfl, rfl, rfl, rfl⟩ rfl rfl rfl rfl rfl (by kernel_rfl) Tryd.func3 (by kernel_rfl)
    (of_decide_eq_true (by kernel_rfl)) (by unfold Func.isWrapper; first | (rw [if_pos (by decide +kernel)]; kernel_rfl) | (rw [if_neg (by decide +kernel)]; exact ⟨rfl, rfl⟩))
    (fun os started H enc _ => opsCompares_lifted os started H enc)

end Go.Proofs.YtpdibmopbpcfdaaDoor
