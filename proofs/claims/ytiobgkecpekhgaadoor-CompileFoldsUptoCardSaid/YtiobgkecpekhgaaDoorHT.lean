import Derived.Test.YtiobgkecpekhgaaDoorAE
import Derived.Test.YtiobgkecpekhgaaDoorC1
import Derived.Test.YtiobgkecpekhgaaDoorHA
import Derived.Test.YtiobgkecpekhgaaDoorV0
set_option linter.unusedVariables false
set_option linter.unusedSimpArgs false
namespace Go.Proofs.YtiobgkecpekhgaaDoor
open Go.AM
attribute [local irreducible] AWp rgnS callR callV effR valR guardR stepR nextR
set_option maxRecDepth 100000
theorem num5_ok {L : List Int} (hL : ∀ x ∈ L, Small64 x) (n : Int) (hn : 0 < n) : QC L 40 [.int .i64 n] (VI 0 n) := by
  refine qc_of_body Tryd.func40 rfl (by kernel_rfl) (by simp [Tryd.ntmps40]) rfl fun at0 left => ?_
  simp only [Tryd.ntmps40, enterF, Nat.reduceAdd, chR]
  repeat' (first | with_reducible (first | refine v'1 fun _ _ => ?_ | refine v'2 ?_ | (first | refine v'3 ?_ | refine v'4 ?_ | refine v'5 fun _ _ _ _ => ?_ | refine v'6 (fun hg => ?_) (fun hg => ?_) <;> try simp only [hg]) <;> simp only [wS, simprocAttr] | (first | refine v's ?_ | refine v'e ?_ | refine v'r ?_) <;> try simp only [wE, simprocAttr] | refine v'8 ?_ | refine v'9 ?_))
  refine eg_tree hG0 (at_22 L _ n hL (by omega)) ?_
  simp only [wS, simprocAttr]
  try refine eg_and (by kernel_rfl) ?_
  repeat' (first | with_reducible (first | refine v'1 fun _ _ => ?_ | refine v'2 ?_ | (first | refine v'3 ?_ | refine v'4 ?_ | refine v'5 fun _ _ _ _ => ?_ | refine v'6 (fun hg => ?_) (fun hg => ?_) <;> try simp only [hg]) <;> simp only [wS, simprocAttr] | (first | refine v's ?_ | refine v'e ?_ | refine v'r ?_) <;> try simp only [wE, simprocAttr] | refine v'8 ?_ | refine v'9 ?_))
  refine eg_ret1 rfl ?_
  refine EG.of (?v_0, ?a_0, ?l_0) ⟨?hV_0, ?hi_0⟩ ⟨?hv_0, ?g1_0⟩
  case hv_0 => simp only [wS, simprocAttr, chR]; exact rfl
  case g1_0 => simp only [wS, simprocAttr, chR]; exact rfl
  case hV_0 => exact ⟨_, rfl, atS_b L _ n hn⟩
  case hi_0 => exact rfl
theorem ref_rs4 [Rnd] {r0 r1 r2 : ARow} {a b c : AV} {n k : Nat} {s : AS} (fs : List (Nat × AV)) (hh : s.h = [r0, r1, r2, .cells 0 [a, b, c, .sl true []]]) (hk : k ≤ 5) (hl : holdsF fs s.get) (hf : (fs.all fun p => inR (fun r => decide (r < 5)) p.2) = true) (h0 : rowIn (fun r => decide (r < 5)) r0 = true) (h1 : rowIn (fun r => decide (r < 5)) r1 = true) (h2 : rowIn (fun r => decide (r < 5)) r2 = true) (ha : inL (fun r => decide (r < 5)) [a, b, c] = true) :
    Ref G0 n k s ⟨mkF fs, [r0, r1, r2, .cells 0 [a, b, c, .rsv 4], .none]⟩ := by
  refine ref_to [] (fun r => decide (r < 5)) hG0 (fun r hr => by simp; omega) (frzF_same hl) hf ?_
  rw [hh]
  have hkk : ∀ (r : Nat) (y : ARow), FrzRow s.row [] r y y := fun r y => .inr ⟨.inl (by simp), .inl rfl⟩
  simp only [inL, Bool.and_true, Bool.and_eq_true] at ha
  simp only [ToH, and_true]
  exact ⟨.inr ⟨rfl, h0, hkk _ _⟩, .inr ⟨rfl, h1, hkk _ _⟩, .inr ⟨rfl, h2, hkk _ _⟩, .inr ⟨rfl, by (simp only [rowIn, inL, inR, ha.1, ha.2.1, ha.2.2, Bool.and_self, Bool.and_true, Bool.true_and]; try rfl), .inr ⟨.inl (by simp), .inr ⟨0, _, _, rfl, rfl, .inl rfl, .inl rfl, .inl rfl, .inr .toRsv, trivial⟩⟩⟩⟩
set_option maxHeartbeats 4000000 in
theorem tree_step {L : List Int} (hL : ∀ x ∈ L, Small64 x) {D : Nat} (hD : D ≤ 10) (hT : 0 < D → QC L 21 [.int .i64 (D : Nat)] (VN D)) : QC L 21 [.int .i64 ((D + 1 : Nat) : Int)] (VN (D + 1)) := by
  have ed : IntKind.i64.wrap (((D + 1 : Nat) : Int) - 1) = (D : Nat) := by rw [wrap_small (by omega) (by omega)]; omega
  refine qc_of_body Tryd.func21 rfl (by kernel_rfl) (by simp [Tryd.ntmps21]) rfl fun at0 left => ?_
  simp only [Tryd.ntmps21, enterF, Nat.reduceAdd]
  repeat' (first | with_reducible (first | refine v'1 fun _ _ => ?_ | refine v'2 ?_ | (first | refine v'3 ?_ | refine v'4 ?_ | refine v'5 fun _ _ _ _ => ?_ | refine v'6 (fun hg => ?_) (fun hg => ?_) <;> try simp only [hg]) <;> simp only [wS, simprocAttr, chR] | (first | refine v's ?_ | refine v'e ?_ | refine v'r ?_) <;> try simp only [wE, simprocAttr] | refine v'8 ?_ | refine v'9 ?_))
  refine eg_qc (num5_ok hL 32 (by decide)) _ _ (by simp only [wS, simprocAttr, chR]; try exact rfl) ?_
  rintro _ a1 l1 ⟨z1, rfl, hz1a, hz1b⟩ -
  simp only [wS, simprocAttr, chR]
  refine eg_qc (num5_ok hL 19 (by decide)) _ _ (by simp only [wS, simprocAttr, chR]; try exact rfl) ?_
  rintro _ a2 l2 ⟨z2, rfl, hz2a, hz2b⟩ -
  simp only [wS, simprocAttr, chR]
  refine eg_qc (num5_ok hL 5 (by decide)) _ _ (by simp only [wS, simprocAttr, chR]; try exact rfl) ?_
  rintro _ a3 l3 ⟨z3, rfl, hz3a, hz3b⟩ -
  simp only [wS, simprocAttr, chR]
  repeat' (first | with_reducible (first | refine v'1 fun _ _ => ?_ | refine v'2 ?_ | (first | refine v'3 ?_ | refine v'4 ?_ | refine v'5 fun _ _ _ _ => ?_ | refine v'6 (fun hg => ?_) (fun hg => ?_) <;> try simp only [hg]) <;> simp only [wS, simprocAttr, chR] | (first | refine v's ?_ | refine v'e ?_ | refine v'r ?_) <;> try simp only [wE, simprocAttr] | refine v'8 ?_ | refine v'9 ?_))
  refine eg_qc (num5_ok hL 4 (by decide)) _ _ (by simp only [wS, simprocAttr, chR]; try exact rfl) ?_
  rintro _ a4 l4 ⟨z4, rfl, hz4a, hz4b⟩ -
  simp only [wS, simprocAttr, chR]
  repeat' (first | with_reducible (first | refine v'1 fun _ _ => ?_ | refine v'2 ?_ | (first | refine v'3 ?_ | refine v'4 ?_ | refine v'5 fun _ _ _ _ => ?_ | refine v'6 (fun hg => ?_) (fun hg => ?_) <;> try simp only [hg]) <;> simp only [wS, simprocAttr, chR] | (first | refine v's ?_ | refine v'e ?_ | refine v'r ?_) <;> try simp only [wE, simprocAttr] | refine v'8 ?_ | refine v'9 ?_))
  refine eg_loop_k (α := {p : List (List AV) × Int × Int // p.1.length ≤ z4.toNat ∧ ∀ e ∈ p.1, NodeV D e}) (fun p => [(0, .ptr 1 0 0), (1, .int .i64 ((D + 1 : Nat) : Int)), (4, .ptr 2 0 0), (5, .ptr 3 0 0), (6, .int .i64 z4), (7, .int .i64 (p.1.1.length : Nat))]) (fun p => [.dead, chR L p.1.2.1 p.1.2.2, .cells 0 [.int .i64 0, .int .i64 0, .int .i64 0, .sl true []], .cells 0 [.int .i64 (IntKind.i64.wrap (z1 - 1)), .int .i64 (IntKind.i64.wrap (z2 - 9)), .int .i64 (IntKind.i64.wrap (z3 - 1)), rv 4 (p.1.1.length - 1) 4 p.1.1], rvR (p.1.1.length - 1) p.1.1]) (fun p => z4.toNat - p.1.1.length) ⟨([], a4, l4), by simp, by simp⟩ (ref_rs4 _ ?_ (by decide) ?_ ?_ rfl (chR_in _ _ _ _) rfl rfl) ?_
  · simp only [wS, simprocAttr, chR]; try exact rfl
  · simp only [wS, simprocAttr]; try exact rfl
  · rfl
  rintro ⟨⟨app, a5, l5⟩, hl, hn⟩ K3 hK3
  simp only at hl hn
  repeat' (first | with_reducible (first | refine v'1 fun _ _ => ?_ | refine v'2 ?_ | (first | refine v'3 ?_ | refine v'4 ?_ | refine v'5 fun _ _ _ _ => ?_ | refine v'6 (fun hg => ?_) (fun hg => ?_) <;> try simp only [hg]) <;> simp only [wS, simprocAttr, chR, ↓heads_rv1, ↓toCells_rv1] | (first | refine v's ?_ | refine v'e ?_ | refine v'r ?_) <;> try simp only [wE, simprocAttr] | refine v'9 ?_))
  · refine ContE.go (by assumption) ?_
    repeat' (first | with_reducible (first | refine v'1 fun _ _ => ?_ | refine v'2 ?_ | (first | refine v'3 ?_ | refine v'4 ?_ | refine v'5 fun _ _ _ _ => ?_ | refine v'6 (fun hg => ?_) (fun hg => ?_) <;> try simp only [hg]) <;> simp only [wS, simprocAttr, chR, ↓heads_rv1, ↓toCells_rv1] | (first | refine v's ?_ | refine v'e ?_ | refine v'r ?_) <;> try simp only [wE, simprocAttr] | refine v'9 ?_))
    refine eg_split (fun h => ?_) (fun h => ?_)
    · have hD0 : 0 < D := by simp at hg; omega
      have hlt : app.length < z4.toNat := by have hq := (by assumption : decide (((app.length : Nat) : Int) < z4) = true); simp at hq; omega
      have e3 := wrap_succ (k := app.length) hlt (by omega)
      repeat' (first | with_reducible (first | refine v'1 fun _ _ => ?_ | refine v'2 ?_ | (first | refine v'3 ?_ | refine v'4 ?_ | refine v'5 fun _ _ _ _ => ?_ | refine v'6 (fun hg => ?_) (fun hg => ?_) <;> try simp only [hg]) <;> simp only [wS, simprocAttr, ed, chR, ↓heads_rv1, ↓toCells_rv1] | (first | refine v's ?_ | refine v'e ?_ | refine v'r ?_) <;> try simp only [wE, simprocAttr] | refine v'8 ?_ | refine v'9 ?_))
      refine eg_qc (hT hD0) a5 l5 (by simp only [wS, simprocAttr, chR]; try exact rfl) ?_
      rintro _ a6 l6 ⟨c, rfl, hc⟩ -
      obtain ⟨k1, n1, m1, b1, es1, rfl⟩ := node_ex hc
      simp only [wS, simprocAttr, ↓heads_rv1, ↓toCells_rv1]
      refine EG.mono (fun i h => eff_rv1 (app := app) (e := [.int .i64 k1, .int .i64 n1, .int .i64 m1, .sl b1 es1]) (by' := 48) (by kernel_rfl) (by (simp only [wS, simprocAttr]; try exact rfl)) (fun e he => (hn e he).len) (by simp [srcA]) (by omega) h) ?_
      simp only [wS, simprocAttr, hn, ↓heads_rv1, ↓toCells_rv1]
      refine eg_and (by kernel_rfl) ?_
      repeat' (first | with_reducible (first | refine v'1 fun _ _ => ?_ | refine v'2 ?_ | (first | refine v'3 ?_ | refine v'4 ?_ | refine v'5 fun _ _ _ _ => ?_ | refine v'6 (fun hg => ?_) (fun hg => ?_) <;> try simp only [hg]) <;> simp only [wS, simprocAttr, e3, ↓heads_rv1, ↓toCells_rv1] | (first | refine v's ?_ | refine v'e ?_ | refine v'r ?_) <;> try simp only [wE, simprocAttr] | refine v'8 ?_ | refine v'9 ?_))
      refine hK3 _ ⟨(app ++ [[.int .i64 k1, .int .i64 n1, .int .i64 m1, .sl b1 es1]], a6, l6), by simp <;> omega, fun e he => ?_⟩ (Weak.ref ⟨?_, .inl ?_⟩) (by simp <;> omega)
      · rcases List.mem_append.1 he with he | he
        · exact hn e he
        · rw [List.mem_singleton.1 he]; exact hc
      · simp only [wS, simprocAttr, List.length_append, List.length_singleton, Nat.add_sub_cancel]; try exact rfl
      · simp only [wS, simprocAttr, List.length_append, List.length_singleton, Nat.add_sub_cancel]; try exact rfl
    · repeat' (first | with_reducible (first | refine v'1 fun _ _ => ?_ | refine v'2 ?_ | (first | refine v'3 ?_ | refine v'4 ?_ | refine v'5 fun _ _ _ _ => ?_ | refine v'6 (fun hg => ?_) (fun hg => ?_) <;> try simp only [hg]) <;> simp only [wS, simprocAttr, chR, ↓heads_rv1, ↓toCells_rv1] | (first | refine v's ?_ | refine v'e ?_ | refine v'r ?_) <;> try simp only [wE, simprocAttr] | refine v'9 ?_))
      refine ContE.go (by assumption) (eg_ref (ref_to [4] (fun r => decide (r < 4)) (l := [(4, .ptr 2 0 0), (5, .ptr 3 0 0)]) (h := [.dead, chR L a5 l5, .cells 0 [.int .i64 0, .int .i64 0, .int .i64 0, .sl true []], .cells 0 [.int .i64 (IntKind.i64.wrap (z1 - 1)), .int .i64 (IntKind.i64.wrap (z2 - 9)), .int .i64 (IntKind.i64.wrap (z3 - 1)), .sl false app]]) hG0 (fun r hr => by simp; omega) ?_ ?_ ?_) ?_)
      · simp only [wS, simprocAttr, FrzF, Frz, and_true, true_or]; try exact trivial
      · rfl
      · simp only [wS, simprocAttr]
        simp only [ToH, and_true]
        refine ⟨.inr ⟨rfl, rfl, .inr ⟨.inl (by simp), .inl rfl⟩⟩, .inr ⟨rfl, chR_in _ _ _ _, .inr ⟨.inl (by simp), .inl rfl⟩⟩, .inr ⟨rfl, rfl, .inr ⟨.inl (by simp), .inl rfl⟩⟩, .inr ⟨rfl, ?_, .inr ⟨.inl (by simp), .inr ⟨0, _, _, rfl, rfl, .inl rfl, .inl rfl, .inl rfl, .inr ?_, trivial⟩⟩⟩, rfl⟩
        · simp only [rowIn, inL, inR, Bool.true_and, Bool.and_true]; exact inE_no (nodes_tree hn)
        · exact lend_rv (v := app.length - 1) rfl (by simp) (fun e he => (hn e he).len) (nodes_tree hn)
      repeat' (first | with_reducible (first | refine v'1 fun _ _ => ?_ | refine v'2 ?_ | (first | refine v'3 ?_ | refine v'4 ?_ | refine v'5 fun _ _ _ _ => ?_ | refine v'6 (fun hg => ?_) (fun hg => ?_) <;> try simp only [hg]) <;> simp only [wS, simprocAttr, chR] | (first | refine v's ?_ | refine v'e ?_ | refine v'r ?_) <;> try simp only [wE, simprocAttr] | refine v'8 ?_ | refine v'9 ?_))
      exact eg_finC rfl (by simp only [wS, simprocAttr]; try exact rfl) (by simp only [wS, simprocAttr, chR]; try exact rfl) ⟨_, rfl, .mk (d := D) (hd := Nat.lt_succ_self D) _ _ _ _ _ (by omega) hn⟩
  · refine ContE.go (by assumption) ?_
    repeat' (first | with_reducible (first | refine v'1 fun _ _ => ?_ | refine v'2 ?_ | (first | refine v'3 ?_ | refine v'4 ?_ | refine v'5 fun _ _ _ _ => ?_ | refine v'6 (fun hg => ?_) (fun hg => ?_) <;> try simp only [hg]) <;> simp only [wS, simprocAttr, chR, ↓heads_rv1, ↓toCells_rv1] | (first | refine v's ?_ | refine v'e ?_ | refine v'r ?_) <;> try simp only [wE, simprocAttr] | refine v'9 ?_))
    refine ContE.go (by assumption) (eg_ref (ref_to [4] (fun r => decide (r < 4)) (l := [(4, .ptr 2 0 0), (5, .ptr 3 0 0)]) (h := [.dead, chR L a5 l5, .cells 0 [.int .i64 0, .int .i64 0, .int .i64 0, .sl true []], .cells 0 [.int .i64 (IntKind.i64.wrap (z1 - 1)), .int .i64 (IntKind.i64.wrap (z2 - 9)), .int .i64 (IntKind.i64.wrap (z3 - 1)), .sl false app]]) hG0 (fun r hr => by simp; omega) ?_ ?_ ?_) ?_)
    · simp only [wS, simprocAttr, FrzF, Frz, and_true, true_or]; try exact trivial
    · rfl
    · simp only [wS, simprocAttr]
      simp only [ToH, and_true]
      refine ⟨.inr ⟨rfl, rfl, .inr ⟨.inl (by simp), .inl rfl⟩⟩, .inr ⟨rfl, chR_in _ _ _ _, .inr ⟨.inl (by simp), .inl rfl⟩⟩, .inr ⟨rfl, rfl, .inr ⟨.inl (by simp), .inl rfl⟩⟩, .inr ⟨rfl, ?_, .inr ⟨.inl (by simp), .inr ⟨0, _, _, rfl, rfl, .inl rfl, .inl rfl, .inl rfl, .inr ?_, trivial⟩⟩⟩, rfl⟩
      · simp only [rowIn, inL, inR, Bool.true_and, Bool.and_true]; exact inE_no (nodes_tree hn)
      · exact lend_rv (v := app.length - 1) rfl (by simp) (fun e he => (hn e he).len) (nodes_tree hn)
    repeat' (first | with_reducible (first | refine v'1 fun _ _ => ?_ | refine v'2 ?_ | (first | refine v'3 ?_ | refine v'4 ?_ | refine v'5 fun _ _ _ _ => ?_ | refine v'6 (fun hg => ?_) (fun hg => ?_) <;> try simp only [hg]) <;> simp only [wS, simprocAttr, chR] | (first | refine v's ?_ | refine v'e ?_ | refine v'r ?_) <;> try simp only [wE, simprocAttr] | refine v'8 ?_ | refine v'9 ?_))
    exact eg_finC rfl (by simp only [wS, simprocAttr]; try exact rfl) (by simp only [wS, simprocAttr, chR]; try exact rfl) ⟨_, rfl, .mk (d := D) (hd := Nat.lt_succ_self D) _ _ _ _ _ (by omega) hn⟩
  · refine ContE.go (by assumption) ?_
    repeat' (first | with_reducible (first | refine v'1 fun _ _ => ?_ | refine v'2 ?_ | (first | refine v'3 ?_ | refine v'4 ?_ | refine v'5 fun _ _ _ _ => ?_ | refine v'6 (fun hg => ?_) (fun hg => ?_) <;> try simp only [hg]) <;> simp only [wS, simprocAttr, chR, ↓heads_rv1, ↓toCells_rv1] | (first | refine v's ?_ | refine v'e ?_ | refine v'r ?_) <;> try simp only [wE, simprocAttr] | refine v'9 ?_))
    refine ContE.go (by assumption) (eg_ref (ref_to [4] (fun r => decide (r < 4)) (l := [(4, .ptr 2 0 0), (5, .ptr 3 0 0)]) (h := [.dead, chR L a5 l5, .cells 0 [.int .i64 0, .int .i64 0, .int .i64 0, .sl true []], .cells 0 [.int .i64 (IntKind.i64.wrap (z1 - 1)), .int .i64 (IntKind.i64.wrap (z2 - 9)), .int .i64 (IntKind.i64.wrap (z3 - 1)), .sl false app]]) hG0 (fun r hr => by simp; omega) ?_ ?_ ?_) ?_)
    · simp only [wS, simprocAttr, FrzF, Frz, and_true, true_or]; try exact trivial
    · rfl
    · simp only [wS, simprocAttr]
      simp only [ToH, and_true]
      refine ⟨.inr ⟨rfl, rfl, .inr ⟨.inl (by simp), .inl rfl⟩⟩, .inr ⟨rfl, chR_in _ _ _ _, .inr ⟨.inl (by simp), .inl rfl⟩⟩, .inr ⟨rfl, rfl, .inr ⟨.inl (by simp), .inl rfl⟩⟩, .inr ⟨rfl, ?_, .inr ⟨.inl (by simp), .inr ⟨0, _, _, rfl, rfl, .inl rfl, .inl rfl, .inl rfl, .inr ?_, trivial⟩⟩⟩, rfl⟩
      · simp only [rowIn, inL, inR, Bool.true_and, Bool.and_true]; exact inE_no (nodes_tree hn)
      · exact lend_rv (v := app.length - 1) rfl (by simp) (fun e he => (hn e he).len) (nodes_tree hn)
    repeat' (first | with_reducible (first | refine v'1 fun _ _ => ?_ | refine v'2 ?_ | (first | refine v'3 ?_ | refine v'4 ?_ | refine v'5 fun _ _ _ _ => ?_ | refine v'6 (fun hg => ?_) (fun hg => ?_) <;> try simp only [hg]) <;> simp only [wS, simprocAttr, chR] | (first | refine v's ?_ | refine v'e ?_ | refine v'r ?_) <;> try simp only [wE, simprocAttr] | refine v'8 ?_ | refine v'9 ?_))
    exact eg_finC rfl (by simp only [wS, simprocAttr]; try exact rfl) (by simp only [wS, simprocAttr, chR]; try exact rfl) ⟨_, rfl, .mk (d := D) (hd := Nat.lt_succ_self D) _ _ _ _ _ (by omega) hn⟩
theorem tree_ok5 {L : List Int} (hL : ∀ x ∈ L, Small64 x) : ∀ D : Nat, 1 ≤ D → D ≤ 8 → QC L 21 [.int .i64 (D : Nat)] (VN D)
  | 0, h, _ => absurd h (by decide)
  | D + 1, _, h => tree_step hL (by omega) fun h0 => tree_ok5 hL D h0 (by omega)
theorem tree_5 (L : List Int) (hL : ∀ x ∈ L, Small64 x) : EP Tryd.prog G0 9 [encI L] (VN 6) := by
  refine ep_of_body hG0 Tryd.func9 rfl (by kernel_rfl) (by simp [Tryd.ntmps9]) (by simp [inL, tree_encI]) (fun _ => VN.tree) ?_
  simp only [Tryd.ntmps9, enterF, Nat.reduceAdd]
  obtain ⟨el, hel⟩ : ∃ es, encI L = .sl false es := ⟨_, rfl⟩
  rw [hel]
  repeat' (first | with_reducible (first | refine v'1 fun _ _ => ?_ | refine v'2 ?_ | (first | refine v'3 ?_ | refine v'4 ?_ | refine v'5 fun _ _ _ _ => ?_ | refine v'6 (fun hg => ?_) (fun hg => ?_) <;> try simp only [hg]) <;> simp only [wS, simprocAttr] | (first | refine v's ?_ | refine v'e ?_ | refine v'r ?_) <;> try simp only [wE, simprocAttr] | refine v'8 ?_ | refine v'9 ?_))
  refine eg_qc (tree_ok5 hL 6 (by decide) (by decide)) 0 29 (by simp only [wS, simprocAttr, chR, hel]; try exact rfl) ?_
  rintro _ a1 l1 ⟨c, rfl, hc⟩ -
  obtain ⟨k1, n1, m1, b1, es1, rfl⟩ := node_ex hc
  simp only [wS, simprocAttr]
  repeat' (first | with_reducible (first | refine v'1 fun _ _ => ?_ | refine v'2 ?_ | (first | refine v'3 ?_ | refine v'4 ?_ | refine v'5 fun _ _ _ _ => ?_ | refine v'6 (fun hg => ?_) (fun hg => ?_) <;> try simp only [hg]) <;> simp only [wS, simprocAttr] | (first | refine v's ?_ | refine v'e ?_ | refine v'r ?_) <;> try simp only [wE, simprocAttr] | refine v'8 ?_ | refine v'9 ?_))
  refine eg_retC (v := .agg [.int .i64 k1, .int .i64 n1, .int .i64 m1, .sl b1 es1]) rfl (by simp only [wS, simprocAttr]; try exact rfl) ?_
  exact EG.of _ (VN.wk ⟨_, rfl, hc⟩) rfl
end Go.Proofs.YtiobgkecpekhgaaDoor
