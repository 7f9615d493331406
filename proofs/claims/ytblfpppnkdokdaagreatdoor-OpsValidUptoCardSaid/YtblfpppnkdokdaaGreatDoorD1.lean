import Derived.Test.YtblfpppnkdokdaaGreatDoorD0
import Derived.Test.YtblfpppnkdokdaaGreatDoorRs0
import Derived.Test.YtblfpppnkdokdaaGreatDoorVP
import Derived.ProofKit
import Derived.SizedLaws
import Derived.OpenShut
import Derived.LaidMore
import Derived.Lay
import Derived.Stop.Joined
import Derived.Deep.DeepWitnessRowRef
set_option linter.unusedVariables false
set_option linter.unusedSimpArgs false
namespace Go.Proofs.YtblfpppnkdokdaaGreatDoor
open Go.AM
attribute [local irreducible] AWp rgnS callR callV effR valR guardR stepR nextR
open Go.ChangeShapes Go.WideShapes Go.ChangeAt Go.RowKit
set_option maxRecDepth 100000
theorem opsValid_met (os : Os) (args : Array Value) : laidMetH Tryz.prog Rows.opsValidUptoRow.laid ((World.laidAll Tryz.prog os Rows.opsValidUptoRow.laid).forCall (fun _ _ => 0) ⟨#[], args, []⟩).memory := by
  rw [MakeChecks.laidMetH_plain _ _ _ (by kernel_rfl)]
  exact laidMet_laidAll _ (by kernel_rfl) (by kernel_rfl)
theorem opsValid_reads (os : Os) {H : Type} (enc : TypeId × Value → H) : ∃ places, DataW.whole enc Tryz.prog ((World.laidAll Tryz.prog os Rows.opsValidUptoRow.laid).forCall (fun _ _ => 0) ⟨#[], #[.slice none 0 0, .slice none 0 0, .slice none 0 0, .int .i64 0, .int .i64 0, .int .i64 0, .agg #[.string ByteArray.empty, .int .i64 0, .int .i64 0, .int .i64 0, .slice none 0 0, .int .i64 0, .int .i64 0, .int .i64 0, .slice none 0 0, .int .i64 0]], []⟩).memory Tryz.f3.params.toList Rows.opsValidSpec.vars false #[.slice none 0 0, .slice none 0 0, .slice none 0 0, .int .i64 0, .int .i64 0, .int .i64 0, .agg #[.string ByteArray.empty, .int .i64 0, .int .i64 0, .int .i64 0, .slice none 0 0, .int .i64 0, .int .i64 0, .int .i64 0, .slice none 0 0, .int .i64 0]].toList 8 = some ([.nil, .nil, .nil, .lit (.int .i64 0), .lit (.int .i64 0), .lit (.int .i64 0), .agg [.lit (.string []), .agg [.lit (.int .i64 0), .lit (.int .i64 0), .lit (.int .i64 0), .nil], .agg [.lit (.int .i64 0), .lit (.int .i64 0), .lit (.int .i64 0), .nil], .lit (.int .i64 0)]], [], places) :=
  ⟨[], by kernel_rfl⟩
theorem opsValid_lifted (os : Os) (started : os.Started) (H : Type) (enc : TypeId × Value → H) (F : Stop.Interp) :
    ReturnsInHanded {} Tryz.checked os 3 .any ((Rows.OpenSpec.upto Rows.opsValidSpec).preRow enc Tryz.prog Tryz.f3 Rows.opsValidUptoRow.domain false Rows.opsValidUptoRow.laid) (((Rows.OpenSpec.upto Rows.opsValidSpec).at F).post enc Tryz.prog Tryz.f3 false true false false) := by
  obtain ⟨places, hx⟩ := opsValid_reads os enc
  refine returnsInHanded_of_row (C := Tryz.checked) (s := (Rows.OpenSpec.upto Rows.opsValidSpec)) own0 started (by kernel_rfl) Tryz.func3
    (witness_row_atRef (enc := enc) (C := Tryz.checked) false (World.laidAll Tryz.prog os Rows.opsValidUptoRow.laid) #[.slice none 0 0, .slice none 0 0, .slice none 0 0, .int .i64 0, .int .i64 0, .int .i64 0, .agg #[.string ByteArray.empty, .int .i64 0, .int .i64 0, .int .i64 0, .slice none 0 0, .int .i64 0, .int .i64 0, .int .i64 0, .slice none 0 0, .int .i64 0]] (World.laidAll_os _ _ _) (by kernel_rfl) (by kernel_rfl) (by kernel_rfl)
      (OpenSpec.preRow_of_cond 8 hx (by kernel_rfl) (fun k hk => by cases hk; kernel_rfl) (by kernel_rfl) (opsValid_met os _))) ?_
  intro W base args ds gs before hval0 hW _ hcond hsz0 hL _ _
  have hsz : (DataW.weightsEach Tryz.prog (Tryz.f3.params.toList ++ Rows.opsValidSpec.plain.varTypes Tryz.prog) (ds ++ gs)).all (· ≤ reachBytes) = true := hsz0
  clear hsz0
  have hval : ∀ (j : Nat) t v, Tryz.f3.params[j]? = some t → args[j]? = some v → Value.okWide Tryz.prog W .any base t v := hval0
  have hbk : Rows.uptoBulkAll (ds ++ gs) ≤ 1048576 := of_decide_eq_true (hcond _ rfl)
  clear hcond
  have hW' := hW
  obtain ⟨p, q, hA0, hV, rfl, _, _⟩ := hW
  have hA : DataW.TrodAll enc Tryz.prog W 0 (fun _ => true) true Tryz.f3.params.toList args.toList ds p := hA0
  rw [Tryz.params3] at hA hval hsz
  obtain ⟨arr⟩ := args
  simp only at hA
  obtain ⟨v0, r0, d0, e0, p0, q0, h0, rfl, rfl, g0, hA0⟩ := trodAll_cons hA
  obtain ⟨v1, r1, d1, e1, p1, q1, h1, rfl, rfl, g1, hA1⟩ := trodAll_cons hA0
  obtain ⟨v2, r2, d2, e2, p2, q2, h2, rfl, rfl, g2, hA2⟩ := trodAll_cons hA1
  obtain ⟨v3, r3, d3, e3, p3, q3, h3, rfl, rfl, g3, hA3⟩ := trodAll_cons hA2
  obtain ⟨v4, r4, d4, e4, p4, q4, h4, rfl, rfl, g4, hA4⟩ := trodAll_cons hA3
  obtain ⟨v5, r5, d5, e5, p5, q5, h5, rfl, rfl, g5, hA5⟩ := trodAll_cons hA4
  obtain ⟨v6, r6, d6, e6, p6, q6, h6, rfl, rfl, g6, hA6⟩ := trodAll_cons hA5
  obtain ⟨h7, rfl, rfl⟩ := trodAll_nil hA6
  subst h7 h6 h5 h4 h3 h2 h1 h0
  obtain ⟨rfl, rfl⟩ := trodVars_none hV
  have b0 : ∀ x ∈ p0, x.block < W.heap.size := fun x hx => by simpa using hW'.lt x (by simp [hx])
  obtain ⟨l0, a0, s0, z0⟩ := rel_ints hsz (j := 0) rfl rfl (hval 0 22 v0 rfl rfl) g0 b0
  have b1 : ∀ x ∈ p1, x.block < W.heap.size := fun x hx => by simpa using hW'.lt x (by simp [hx])
  obtain ⟨l1, a1, s1, z1⟩ := rel_ints hsz (j := 1) rfl rfl (hval 1 22 v1 rfl rfl) g1 b1
  have b2 : ∀ x ∈ p2, x.block < W.heap.size := fun x hx => by simpa using hW'.lt x (by simp [hx])
  obtain ⟨l2, a2, s2, z2⟩ := rel_ints hsz (j := 2) rfl rfl (hval 2 22 v2 rfl rfl) g2 b2
  obtain ⟨n3, rfl, rfl, rfl, w3⟩ := open_int Tryz.underlying3 (hval 3 3 v3 rfl rfl) g3
  obtain ⟨n4, rfl, rfl, rfl, w4⟩ := open_int Tryz.underlying3 (hval 4 3 v4 rfl rfl) g4
  obtain ⟨n5, rfl, rfl, rfl, w5⟩ := open_int Tryz.underlying3 (hval 5 3 v5 rfl rfl) g5
  have b6 : ∀ x ∈ p6, x.block < W.heap.size := fun x hx => by simpa using hW'.lt x (by simp [hx])
  have y6 : Rows.uptoBulk d6 ≤ 1048576 := Nat.le_trans (bulkAll_mem (by simp)) hbk
  obtain ⟨c6, rfl, _⟩ := okWide_struct (P := Tryz.prog) (t := 27) und27 (hval 6 27 v6 rfl rfl)
  have gg := g6
  obtain ⟨fu6, m6⟩ := gg
  obtain ⟨nm6, f6, p6', k6, a6, o6, z6, zz6⟩ := rel_op m6
  have a6 : Rel (E0 W) (.agg (opE nm6 f6 p6' k6)) (.agg c6) := by
    simp only [Rel]
    exact ⟨c6.toList, by simp, a6, o6⟩
  clear hA0 hval0
  refine (law_run (us := [v0, v1, v2, .int .i64 n3, .int .i64 n4, .int .i64 n5, .agg c6]) (law_v r259 l0 l1 l2 s0 s1 s2 n3 n4 n5 (wf_small w3) (wf_small w4) (wf_small w5) nm6 f6 p6' k6 (Nat.le_trans (Nat.le_trans z6 y6) (by decide)) (Nat.le_trans (Nat.le_trans zz6 y6) (by decide))) (inv_laid_opsValidUpto hL) (by simp only [RelL]; exact ⟨_, _, rfl, a0, ⟨_, _, rfl, a1, ⟨_, _, rfl, a2, ⟨_, _, rfl, rel_int, ⟨_, _, rfl, rel_int, ⟨_, _, rfl, rel_int, ⟨_, _, rfl, a6, rfl⟩⟩⟩⟩⟩⟩⟩)).mono fun e W' ⟨he, hb⟩ => ?_
  subst he
  exact ⟨_, rfl, _, _, _, [], _, [], hW', trodAll_mk1 (shut_bool Tryz.underlying4 true), (trodAll_cons_mk (Below.trod Tryz.laidOut (by kernel_rfl) (of_decide_eq_true (by kernel_rfl)) g0 hb b0) (trodAll_cons_mk (Below.trod Tryz.laidOut (by kernel_rfl) (of_decide_eq_true (by kernel_rfl)) g1 hb b1) (trodAll_cons_mk (Below.trod Tryz.laidOut (by kernel_rfl) (of_decide_eq_true (by kernel_rfl)) g2 hb b2) (trodAll_cons_mk (shut_int Tryz.underlying3 w3) (trodAll_cons_mk (shut_int Tryz.underlying3 w4) (trodAll_cons_mk (shut_int Tryz.underlying3 w5) (trodAll_cons_mk (Below.trod Tryz.laidOut (by kernel_rfl) (of_decide_eq_true (by kernel_rfl)) g6 hb b6) (trodAll_nil_mk)))))))), rfl, hb.frame _, fun h => by cases h⟩
theorem opsValid_holds : Rows.OpsValidUptoSaid :=
  OpenClaim.holds_of_cond 3 Tryz.f3 rfl rfl rfl rfl rfl rfl rfl ⟨rfl, rfl, rfl, rfl, rfl⟩ rfl rfl rfl rfl rfl (by kernel_rfl) Tryz.func3 (by kernel_rfl)
    (of_decide_eq_true (by kernel_rfl)) (by unfold Func.isWrapper; first | (rw [if_pos (by decide +kernel)]; kernel_rfl) | (rw [if_neg (by decide +kernel)]; exact ⟨rfl, rfl⟩))
    (fun os started H enc _ F => by rw [OpenClaim.pre_eq_preRow]; exact opsValid_lifted os started H enc F)
end Go.Proofs.YtblfpppnkdokdaaGreatDoor
