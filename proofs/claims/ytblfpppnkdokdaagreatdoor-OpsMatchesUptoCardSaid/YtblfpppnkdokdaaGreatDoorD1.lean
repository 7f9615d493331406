import Derived.Test.YtblfpppnkdokdaaGreatDoorDR
import Derived.Test.YtblfpppnkdokdaaGreatDoorSU
import Derived.ProofKit
import Derived.SizedLaws
import Derived.OpenShut
import Derived.LaidMore
import Derived.Lay
import Derived.Stop.Joined
import Derived.Deep.DeepWitnessRowRef
set_option linter.unusedVariables false
set_option linter.unusedSimpArgs false
namespace Go.Proofs.YtblfpppnkdokdaaGreatDoor
open Go.AM
attribute [local irreducible] AWp aP aT bC bH bN aI aL bG
open Go.ChangeShapes Go.WideShapes Go.ChangeAt Go.RowKit
set_option maxRecDepth 100000
theorem tH (os : Os) (args : Array Value) : laidMetH Tryz.prog Rows.opsMatchesUptoRow.laid ((World.laidAll Tryz.prog os Rows.opsMatchesUptoRow.laid).forCall (fun _ _ => 0) ⟨#[], args, []⟩).memory := by
 rw [MakeChecks.laidMetH_plain _ _ _ (by kernel_rfl)]
 exact laidMet_laidAll _ (by kernel_rfl) (by kernel_rfl)
theorem pX (os : Os) {H : Type} (enc : TypeId × Value → H) : ∃ places, DataW.whole enc Tryz.prog ((World.laidAll Tryz.prog os Rows.opsMatchesUptoRow.laid).forCall (fun _ _ => 0) ⟨#[], #[.slice none 0 0, .slice none 0 0, .int .i64 0, .int .i64 0, .int .i64 0, .agg #[.int .i64 0, .int .i64 0, .int .i64 0, .slice none 0 0]], []⟩).memory Tryz.f4.params.toList Rows.opsMatchesSpec.vars false #[.slice none 0 0, .slice none 0 0, .int .i64 0, .int .i64 0, .int .i64 0, .agg #[.int .i64 0, .int .i64 0, .int .i64 0, .slice none 0 0]].toList 8 = some ([.nil, .nil, .lit (.int .i64 0), .lit (.int .i64 0), .lit (.int .i64 0), .agg [.lit (.int .i64 0), .lit (.int .i64 0), .lit (.int .i64 0), .nil]], [], places) :=
 ⟨[], by kernel_rfl⟩
theorem oM (os : Os) (started : os.Started) (H : Type) (enc : TypeId × Value → H) (F : Stop.Interp) :
  ReturnsInHanded {} Tryz.checked os 4 .any ((Rows.OpenSpec.upto Rows.opsMatchesSpec).preRow enc Tryz.prog Tryz.f4 Rows.opsMatchesUptoRow.domain false Rows.opsMatchesUptoRow.laid) (((Rows.OpenSpec.upto Rows.opsMatchesSpec).at F).post enc Tryz.prog Tryz.f4 false true false false) := by
 obtain ⟨places, hx⟩ := pX os enc
 refine returnsInHanded_of_row (C := Tryz.checked) (s := (Rows.OpenSpec.upto Rows.opsMatchesSpec)) RF started (by kernel_rfl) Tryz.func4
  (witness_row_atRef (enc := enc) (C := Tryz.checked) false (World.laidAll Tryz.prog os Rows.opsMatchesUptoRow.laid) #[.slice none 0 0, .slice none 0 0, .int .i64 0, .int .i64 0, .int .i64 0, .agg #[.int .i64 0, .int .i64 0, .int .i64 0, .slice none 0 0]] (World.laidAll_os _ _ _) (by kernel_rfl) (by kernel_rfl) (by kernel_rfl)
   (OpenSpec.preRow_of_cond 8 hx (by kernel_rfl) (fun k hk => by cases hk; kernel_rfl) (by kernel_rfl) (tH os _))) ?_
 intro W base args ds gs before hval0 hW _ hcond hsz0 hL _ _
 have hsz : (DataW.weightsEach Tryz.prog (Tryz.f4.params.toList ++ Rows.opsMatchesSpec.plain.varTypes Tryz.prog) (ds ++ gs)).all (· ≤ reachBytes) = true := hsz0
 clear hsz0
 have hval : ∀ (j : Nat) t v, Tryz.f4.params[j]? = some t → args[j]? = some v → Value.okWide Tryz.prog W .any base t v := hval0
 have hbk : Rows.uptoBulkAll (ds ++ gs) ≤ 1048576 := of_decide_eq_true (hcond _ rfl)
 clear hcond
 have hW' := hW
 obtain ⟨p, q, hA0, hV, rfl, _, _⟩ := hW
 have hA : DataW.TrodAll enc Tryz.prog W 0 (fun _ => true) true Tryz.f4.params.toList args.toList ds p := hA0
 rw [Tryz.params4] at hA hval hsz
 obtain ⟨arr⟩ := args
 simp only at hA
 obtain ⟨v0, r0, d0, e0, p0, q0, h0, rfl, rfl, g0, hA0⟩ := trodAll_cons hA
 obtain ⟨v1, r1, d1, e1, p1, q1, h1, rfl, rfl, g1, hA1⟩ := trodAll_cons hA0
 obtain ⟨v2, r2, d2, e2, p2, q2, h2, rfl, rfl, g2, hA2⟩ := trodAll_cons hA1
 obtain ⟨v3, r3, d3, e3, p3, q3, h3, rfl, rfl, g3, hA3⟩ := trodAll_cons hA2
 obtain ⟨v4, r4, d4, e4, p4, q4, h4, rfl, rfl, g4, hA4⟩ := trodAll_cons hA3
 obtain ⟨v5, r5, d5, e5, p5, q5, h5, rfl, rfl, g5, hA5⟩ := trodAll_cons hA4
 obtain ⟨h6, rfl, rfl⟩ := trodAll_nil hA5
 subst h6 h5 h4 h3 h2 h1 h0
 obtain ⟨rfl, rfl⟩ := trodVars_none hV
 have b0 : ∀ x ∈ p0, x.block < W.heap.size := fun x hx => by simpa using hW'.lt x (by simp [hx])
 obtain ⟨l0, a0, s0, z0⟩ := BT hsz (j := 0) rfl rfl (hval 0 22 v0 rfl rfl) g0 b0
 have b1 : ∀ x ∈ p1, x.block < W.heap.size := fun x hx => by simpa using hW'.lt x (by simp [hx])
 obtain ⟨l1, a1, s1, z1⟩ := BT hsz (j := 1) rfl rfl (hval 1 22 v1 rfl rfl) g1 b1
 obtain ⟨n2, rfl, rfl, rfl, w2⟩ := open_int Tryz.underlying3 (hval 2 3 v2 rfl rfl) g2
 obtain ⟨n3, rfl, rfl, rfl, w3⟩ := open_int Tryz.underlying3 (hval 3 3 v3 rfl rfl) g3
 obtain ⟨n4, rfl, rfl, rfl, w4⟩ := open_int Tryz.underlying3 (hval 4 3 v4 rfl rfl) g4
 have b5 : ∀ x ∈ p5, x.block < W.heap.size := fun x hx => by simpa using hW'.lt x (by simp [hx])
 have y5 : Rows.uptoBulk d5 ≤ 1048576 := Nat.le_trans (D3 (by simp)) hbk
 obtain ⟨c5, rfl, _⟩ := okWide_struct (P := Tryz.prog) (t := 25) MY (hval 5 25 v5 rfl rfl)
 have gg := g5
 obtain ⟨fu5, m5⟩ := gg
 obtain ⟨t5, a5, o5, z5⟩ := IH (ts := 23) (ti := 3) (fs := J3) MY (by kernel_rfl) (by kernel_rfl) (by kernel_rfl) (by kernel_rfl) (by kernel_rfl) (by kernel_rfl) fu5 fu5 _ _ _ (Nat.le_refl _) m5
 have a5 : Rel (E0 W) (.agg (T.enc t5)) (.agg c5) := by
  simp only [Rel]
  exact ⟨c5.toList, by simp, a5, o5⟩
 clear hA0 hval0
 refine (M5 (us := [v0, v1, .int .i64 n2, .int .i64 n3, .int .i64 n4, .agg c5]) (tI l0 l1 n2 n3 n4 s0 s1 (n6 w2) (n6 w3) (n6 w4) t5 (Nat.le_trans (Nat.le_trans z5 y5) (by decide))) (jJ hL) (by simp only [RelL]; exact ⟨_, _, rfl, a0, ⟨_, _, rfl, a1, ⟨_, _, rfl, zK, ⟨_, _, rfl, zK, ⟨_, _, rfl, zK, ⟨_, _, rfl, a5, rfl⟩⟩⟩⟩⟩⟩)).mono fun e W' ⟨he, hb⟩ => ?_
 subst he
 exact ⟨_, rfl, _, _, _, [], _, [], hW', trodAll_mk1 (shut_bool Tryz.underlying4 true), (trodAll_cons_mk (Below.trod Tryz.laidOut (by kernel_rfl) (of_decide_eq_true (by kernel_rfl)) g0 hb b0) (trodAll_cons_mk (Below.trod Tryz.laidOut (by kernel_rfl) (of_decide_eq_true (by kernel_rfl)) g1 hb b1) (trodAll_cons_mk (shut_int Tryz.underlying3 w2) (trodAll_cons_mk (shut_int Tryz.underlying3 w3) (trodAll_cons_mk (shut_int Tryz.underlying3 w4) (trodAll_cons_mk (Below.trod Tryz.laidOut (by kernel_rfl) (of_decide_eq_true (by kernel_rfl)) g5 hb b5) (sA))))))), rfl, hb.frame _, fun h => by cases h⟩
theorem pY : Rows.OpsMatchesUptoSaid :=
 OpenClaim.holds_of_cond 4 Tryz.f4 rfl rfl rfl rfl rfl rfl rfl ⟨rfl, rfl, rfl, rfl, rfl⟩ rfl rfl rfl rfl rfl (by kernel_rfl) Tryz.func4 (by kernel_rfl)
  (of_decide_eq_true (by kernel_rfl)) (by unfold Func.isWrapper; first | (rw [if_pos (by decide +kernel)]; kernel_rfl) | (rw [if_neg (by decide +kernel)]; exact ⟨rfl, rfl⟩))
  (fun os started H enc _ F => by rw [OpenClaim.pre_eq_preRow]; exact oM os started H enc F)
end Go.Proofs.YtblfpppnkdokdaaGreatDoor
