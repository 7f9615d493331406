import Derived.Test.YtiobgkecpekhgaaDoorD0
import Derived.Test.YtiobgkecpekhgaaDoorHL
import Derived.ProofKit
import Derived.SizedLaws
import Derived.OpenShut
import Derived.LaidMore
import Derived.Lay
import Derived.Stop.Joined
import Derived.Deep.DeepWitnessRowRef
set_option linter.unusedVariables false
set_option linter.unusedSimpArgs false
namespace Go.Proofs.YtiobgkecpekhgaaDoor
open Go.AM
attribute [local irreducible] AWp rgnS callR callV effR valR guardR stepR nextR
open Go.ChangeShapes Go.WideShapes Go.ChangeAt Go.RowKit
set_option maxRecDepth 100000
noncomputable def nodeFs : Array Field := match Tryd.prog.underlying 25 with
  | some (.struct fs) => fs
  | _ => #[]
theorem und25 : Tryd.prog.underlying 25 = some (.struct nodeFs) := by kernel_rfl
theorem compileFolds_met (os : Os) (args : Array Value) : laidMetH Tryd.prog Rows.compileFoldsUptoRow.laid ((World.doorLaid Tryd.prog 4000 os).forCall (fun _ _ => 0) ⟨#[], args, []⟩).memory :=
  laidMetH_of_parts3 (fuel := 8) (laidMet_of_run' 8 (by kernel_rfl) (by kernel_rfl)) (by kernel_rfl) (by kernel_rfl)
theorem compileFolds_reads (os : Os) {H : Type} (enc : TypeId × Value → H) : ∃ places, DataW.whole enc Tryd.prog ((World.doorLaid Tryd.prog 4000 os).forCall (fun _ _ => 0) ⟨#[], #[.slice none 0 0, .slice none 0 0, .int .i64 0, .int .i64 0, .int .i64 0, .agg #[.int .i64 0, .int .i64 0, .int .i64 0, .slice none 0 0]], []⟩).memory Tryd.f3.params.toList Rows.compileFoldsSpec.vars false #[.slice none 0 0, .slice none 0 0, .int .i64 0, .int .i64 0, .int .i64 0, .agg #[.int .i64 0, .int .i64 0, .int .i64 0, .slice none 0 0]].toList 8 = some ([.nil, .nil, .lit (.int .i64 0), .lit (.int .i64 0), .lit (.int .i64 0), .agg [.lit (.int .i64 0), .lit (.int .i64 0), .lit (.int .i64 0), .nil]], [], places) :=
  ⟨[], by kernel_rfl⟩
theorem compileFolds_lifted (os : Os) (started : os.Started) (H : Type) (enc : TypeId × Value → H) (F : Stop.Interp) :
    ReturnsInHanded {} Tryd.checked os 3 .any ((Rows.OpenSpec.upto Rows.compileFoldsSpec).preRow enc Tryd.prog Tryd.f3 Rows.compileFoldsUptoRow.domain false Rows.compileFoldsUptoRow.laid) (((Rows.OpenSpec.upto Rows.compileFoldsSpec).at F).post enc Tryd.prog Tryd.f3 false true false false) := by
  obtain ⟨places, hx⟩ := compileFolds_reads os enc
  refine returnsInHanded_of_row (C := Tryd.checked) (s := (Rows.OpenSpec.upto Rows.compileFoldsSpec)) own0 started (by kernel_rfl) Tryd.func3
    (witness_row_atRef (enc := enc) (C := Tryd.checked) false (World.doorLaid Tryd.prog 4000 os) #[.slice none 0 0, .slice none 0 0, .int .i64 0, .int .i64 0, .int .i64 0, .agg #[.int .i64 0, .int .i64 0, .int .i64 0, .slice none 0 0]] rfl (by kernel_rfl) (by kernel_rfl) (by kernel_rfl)
      (OpenSpec.preRow_of_cond 8 hx (by kernel_rfl) (fun k hk => by cases hk; kernel_rfl) (by kernel_rfl) (compileFolds_met os _))) ?_
  intro W base args ds gs before hval0 hW _ hcond hsz0 hL _ _
  have hsz : (DataW.weightsEach Tryd.prog (Tryd.f3.params.toList ++ Rows.compileFoldsSpec.plain.varTypes Tryd.prog) (ds ++ gs)).all (· ≤ reachBytes) = true := hsz0
  clear hsz0
  have hval : ∀ (j : Nat) t v, Tryd.f3.params[j]? = some t → args[j]? = some v → Value.okWide Tryd.prog W .any base t v := hval0
  have hbk : Rows.uptoBulkAll (ds ++ gs) ≤ 1048576 := of_decide_eq_true (hcond _ rfl)
  clear hcond
  have hW' := hW
  obtain ⟨p, q, hA0, hV, rfl, _, _⟩ := hW
  have hA : DataW.TrodAll enc Tryd.prog W 0 (fun _ => true) true Tryd.f3.params.toList args.toList ds p := hA0
  rw [Tryd.params3] at hA hval hsz
  obtain ⟨arr⟩ := args
  simp only at hA
  obtain ⟨v0, r0, d0, e0, p0, q0, h0, rfl, rfl, g0, hA0⟩ := trodAll_cons hA
  obtain ⟨v1, r1, d1, e1, p1, q1, h1, rfl, rfl, g1, hA1⟩ := trodAll_cons hA0
  obtain ⟨v2, r2, d2, e2, p2, q2, h2, rfl, rfl, g2, hA2⟩ := trodAll_cons hA1
  obtain ⟨v3, r3, d3, e3, p3, q3, h3, rfl, rfl, g3, hA3⟩ := trodAll_cons hA2
  obtain ⟨v4, r4, d4, e4, p4, q4, h4, rfl, rfl, g4, hA4⟩ := trodAll_cons hA3
  obtain ⟨v5, r5, d5, e5, p5, q5, h5, rfl, rfl, g5, hA5⟩ := trodAll_cons hA4
  obtain ⟨h6, rfl, rfl⟩ := trodAll_nil hA5
  subst h6 h5 h4 h3 h2 h1 h0
  obtain ⟨rfl, rfl⟩ := trodVars_none hV
  have b0 : ∀ x ∈ p0, x.block < W.heap.size := fun x hx => by simpa using hW'.lt x (by simp [hx])
  obtain ⟨l0, a0, s0, z0⟩ := rel_ints hsz (j := 0) rfl rfl (hval 0 22 v0 rfl rfl) g0 b0
  have b1 : ∀ x ∈ p1, x.block < W.heap.size := fun x hx => by simpa using hW'.lt x (by simp [hx])
  obtain ⟨l1, a1, s1, z1⟩ := rel_ints hsz (j := 1) rfl rfl (hval 1 22 v1 rfl rfl) g1 b1
  obtain ⟨n2, rfl, rfl, rfl, w2⟩ := open_int Tryd.underlying3 (hval 2 3 v2 rfl rfl) g2
  obtain ⟨n3, rfl, rfl, rfl, w3⟩ := open_int Tryd.underlying3 (hval 3 3 v3 rfl rfl) g3
  obtain ⟨n4, rfl, rfl, rfl, w4⟩ := open_int Tryd.underlying3 (hval 4 3 v4 rfl rfl) g4
  have b5 : ∀ x ∈ p5, x.block < W.heap.size := fun x hx => by simpa using hW'.lt x (by simp [hx])
  have y5 : Rows.uptoBulk d5 ≤ 1048576 := Nat.le_trans (bulkAll_mem (by simp)) hbk
  obtain ⟨c5, rfl, _⟩ := okWide_struct (P := Tryd.prog) (t := 25) und25 (hval 5 25 v5 rfl rfl)
  have gg := g5
  obtain ⟨fu5, m5⟩ := gg
  obtain ⟨t5, a5, o5, z5⟩ := rel_node (ts := 23) (ti := 3) (fs := nodeFs) und25 (by kernel_rfl) (by kernel_rfl) (by kernel_rfl) (by kernel_rfl) (by kernel_rfl) (by kernel_rfl) fu5 fu5 _ _ _ (Nat.le_refl _) m5
  have a5 : Rel (E0 W) (.agg (T.enc t5)) (.agg c5) := by
    simp only [Rel]
    exact ⟨c5.toList, by simp, a5, o5⟩
  clear hA0 hval0
  refine (law_run (us := [v0, v1, .int .i64 n2, .int .i64 n3, .int .i64 n4, .agg c5]) (law_3 l0 l1 n2 n3 n4 t5 s0 s1 (wf_small w2) (wf_small w3) (wf_small w4) (Nat.le_trans z5 y5)) (inv_laid_compileFoldsUpto hL) (by simp only [RelL]; exact ⟨_, _, rfl, a0, ⟨_, _, rfl, a1, ⟨_, _, rfl, rel_int, ⟨_, _, rfl, rel_int, ⟨_, _, rfl, rel_int, ⟨_, _, rfl, a5, rfl⟩⟩⟩⟩⟩⟩)).mono fun e W' ⟨he, hb⟩ => ?_
  subst he
  exact ⟨_, rfl, _, _, _, [], _, [], hW', trodAll_mk1 (shut_bool Tryd.underlying4 true), (trodAll_cons_mk (Below.trod Tryd.laidOut (by kernel_rfl) (of_decide_eq_true (by kernel_rfl)) g0 hb b0) (trodAll_cons_mk (Below.trod Tryd.laidOut (by kernel_rfl) (of_decide_eq_true (by kernel_rfl)) g1 hb b1) (trodAll_cons_mk (shut_int Tryd.underlying3 w2) (trodAll_cons_mk (shut_int Tryd.underlying3 w3) (trodAll_cons_mk (shut_int Tryd.underlying3 w4) (trodAll_cons_mk (Below.trod Tryd.laidOut (by kernel_rfl) (of_decide_eq_true (by kernel_rfl)) g5 hb b5) (trodAll_nil_mk))))))), rfl, hb.frame _, fun h => by cases h⟩
theorem compileFolds_holds : Rows.CompileFoldsUptoSaid :=
  OpenClaim.holds_of_cond 3 Tryd.f3 rfl rfl rfl rfl rfl rfl rfl ⟨rfl, rfl, rfl, rfl, rfl⟩ rfl rfl rfl rfl rfl (by kernel_rfl) Tryd.func3 (by kernel_rfl)
    (of_decide_eq_true (by kernel_rfl)) (by unfold Func.isWrapper; first | (rw [if_pos (by decide +kernel)]; kernel_rfl) | (rw [if_neg (by decide +kernel)]; exact ⟨rfl, rfl⟩))
    (fun os started H enc _ F => by rw [OpenClaim.pre_eq_preRow]; exact compileFolds_lifted os started H enc F)
end Go.Proofs.YtiobgkecpekhgaaDoor
