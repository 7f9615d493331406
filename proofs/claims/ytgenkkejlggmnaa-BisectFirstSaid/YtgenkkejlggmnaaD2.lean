import Derived.Test.YtgenkkejlggmnaaB28
import Derived.Test.YtgenkkejlggmnaaD0
import Derived.ProofKit
import Derived.SizedLaws
import Derived.OpenShut
set_option linter.unusedVariables false
set_option linter.unusedSimpArgs false
namespace Go.Proofs.Ytgenkkejlggmnaa
open Go.AM
open Go.ChangeShapes Go.WideShapes Go.ChangeAt Go.RowKit
set_option maxRecDepth 100000 in
theorem bisectFirst_lifted (os : Os) (started : os.Started) (H : Type) (enc : TypeId × Value → H) :
    ReturnsInHanded {} Try.checked os 4 .any (Rows.bisectFirstSpec.pre6 enc Try.prog Try.f4 Rows.bisectFirstRow.domain false) (Rows.bisectFirstSpec.post enc Try.prog Try.f4 false true false false) := by
  refine returnsInHanded_of_change_sized (C := Try.checked) Try.own started (by kernel_rfl) Try.func4
    (ChangeSpec.witness6 (enc := enc) (C := Try.checked) false ⟨#[], #[.slice none 0 0, .slice none 0 0, .slice none 0 0, .int .i64 0, .int .i64 0, .int .i64 0], []⟩ 8 (by kernel_rfl) (by kernel_rfl) (by kernel_rfl) (by kernel_rfl)) ?_
  intro W base args ds gs before hval0 hW _ hsz0 _
  have hsz : (DataW.weightsEach Try.prog (Try.f4.params.toList ++ Rows.bisectFirstSpec.plain.varTypes Try.prog) (ds ++ gs)).all (· ≤ reachBytes) = true := hsz0
  clear hsz0
  have hval : ∀ (j : Nat) t v, Try.f4.params[j]? = some t → args[j]? = some v → Value.okWide Try.prog W .any base t v := hval0
  have hW' := hW
  obtain ⟨p, q, hA0, hV, rfl, _, _⟩ := hW
  have hA : DataW.TrodAll enc Try.prog W 0 (fun _ => true) true Try.f4.params.toList args.toList ds p := hA0
  rw [Try.params4] at hA hval hsz
  obtain ⟨arr⟩ := args
  simp only at hA
  obtain ⟨v0, r0, d0, e0, p0, q0, h0, rfl, rfl, g0, hA0⟩ := trodAll_cons hA
  obtain ⟨v1, r1, d1, e1, p1, q1, h1, rfl, rfl, g1, hA1⟩ := trodAll_cons hA0
  obtain ⟨v2, r2, d2, e2, p2, q2, h2, rfl, rfl, g2, hA2⟩ := trodAll_cons hA1
  obtain ⟨v3, r3, d3, e3, p3, q3, h3, rfl, rfl, g3, hA3⟩ := trodAll_cons hA2
  obtain ⟨v4, r4, d4, e4, p4, q4, h4, rfl, rfl, g4, hA4⟩ := trodAll_cons hA3
  obtain ⟨v5, r5, d5, e5, p5, q5, h5, rfl, rfl, g5, hA5⟩ := trodAll_cons hA4
  obtain ⟨h6, rfl, rfl⟩ := trodAll_nil hA5
  subst h6 h5 h4 h3 h2 h1 h0
  obtain ⟨rfl, rfl⟩ := trodVars_none hV
  have b0 : ∀ x ∈ p0, x.block < W.heap.size := fun x hx => by simpa using hW'.lt x (by simp [hx])
  obtain ⟨l0, a0, s0, z0⟩ := rel_ints hsz (j := 0) rfl rfl (hval 0 22 v0 rfl rfl) g0 b0
  have b1 : ∀ x ∈ p1, x.block < W.heap.size := fun x hx => by simpa using hW'.lt x (by simp [hx])
  obtain ⟨l1, a1, s1, z1⟩ := rel_ints hsz (j := 1) rfl rfl (hval 1 22 v1 rfl rfl) g1 b1
  have b2 : ∀ x ∈ p2, x.block < W.heap.size := fun x hx => by simpa using hW'.lt x (by simp [hx])
  obtain ⟨l2, a2, s2, z2⟩ := rel_ints hsz (j := 2) rfl rfl (hval 2 22 v2 rfl rfl) g2 b2
  obtain ⟨n3, rfl, rfl, rfl, w3⟩ := open_int Try.underlying3 (hval 3 3 v3 rfl rfl) g3
  obtain ⟨n4, rfl, rfl, rfl, w4⟩ := open_int Try.underlying3 (hval 4 3 v4 rfl rfl) g4
  obtain ⟨n5, rfl, rfl, rfl, w5⟩ := open_int Try.underlying3 (hval 5 3 v5 rfl rfl) g5
  clear hA0 hval0
  refine (law_run (us := [v0, v1, v2, .int .i64 n3, .int .i64 n4, .int .i64 n5]) (law_4 l0 l1 l2 n3 n4 n5 s0 z0 s1 z1 s2 z2 (wf_small w3) (wf_small w4) (wf_small w5)) (by simp only [RelL]; exact ⟨_, _, rfl, a0, ⟨_, _, rfl, a1, ⟨_, _, rfl, a2, ⟨_, _, rfl, rel_int, ⟨_, _, rfl, rel_int, ⟨_, _, rfl, rel_int, rfl⟩⟩⟩⟩⟩⟩)).mono fun e W' ⟨he, hb⟩ => ?_
  subst he
  exact ⟨_, rfl, _, _, _, [], _, [], hW', trodAll_mk1 (shut_bool Try.underlying4 true), (trodAll_cons_mk (Below.trod Try.laidOut (by kernel_rfl) (of_decide_eq_true (by kernel_rfl)) g0 hb b0) (trodAll_cons_mk (Below.trod Try.laidOut (by kernel_rfl) (of_decide_eq_true (by kernel_rfl)) g1 hb b1) (trodAll_cons_mk (Below.trod Try.laidOut (by kernel_rfl) (of_decide_eq_true (by kernel_rfl)) g2 hb b2) (trodAll_cons_mk (shut_int Try.underlying3 w3) (trodAll_cons_mk (shut_int Try.underlying3 w4) (trodAll_cons_mk (shut_int Try.underlying3 w5) (trodAll_nil_mk))))))), rfl, hb.frame _, fun h => by cases h⟩

theorem bisectFirst_holds : Rows.BisectFirstSaid :=
  OpenClaim.holds_of_wide 4 Try.f4 rfl rfl rfl rfl rfl rfl rfl ⟨rfl, rfl, rfl, rfl, rfl⟩ rfl rfl rfl rfl rfl (by kernel_rfl) Try.func4 (by kernel_rfl)
    (of_decide_eq_true (by kernel_rfl)) (by unfold Func.isWrapper; rw [if_neg (of_decide_eq_false (by kernel_rfl))]; exact ⟨rfl, rfl⟩)
    (fun os started H enc _ => bisectFirst_lifted os started H enc)

end Go.Proofs.Ytgenkkejlggmnaa
