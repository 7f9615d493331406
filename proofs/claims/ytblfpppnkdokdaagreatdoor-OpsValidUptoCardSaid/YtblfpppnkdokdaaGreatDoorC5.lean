import Derived.Test.YtblfpppnkdokdaaGreatDoorC1
set_option linter.unusedVariables false
set_option linter.unusedSimpArgs false
namespace Go.Proofs.YtblfpppnkdokdaaGreatDoor
open Go.AM
attribute [local irreducible] AWp rgnS callR callV effR valR guardR stepR nextR
set_option maxRecDepth 100000
theorem ref_box [Rnd] {L : List Int} {a l : Int} {n m : Nat} {s : AS} {app : List (List AV)} (fs : List (Nat × AV)) (hh : s.h = [.dead, chR L a l, .cells 0 [.int .i64 0, .int .i64 0, .int .i64 0, .sl true []], .cells 0 [.int .i64 13, .int .i64 0, .int .i64 0, .osl 4 m 0 (m + 1) 4 false], .cells m app.flatten]) (hm : app.length = m + 1) (hsz : ∀ e ∈ app, e.length = 4) (ht : inE noRef app = true) (hl : holdsF fs s.get) :
    Ref G0 n 2 s ⟨mkF fs, [.dead, chR L a l, .cells 0 [.int .i64 0, .int .i64 0, .int .i64 0, .sl true []], .cells 0 [.int .i64 13, .int .i64 0, .int .i64 0, .sl false app], .dead]⟩ := by
  refine ref_freeze [4] fs _ (by rw [hh]; rfl) (frzF_same hl) ?_
  have hr : s.row 4 = .cells m app.flatten := by show s.h.getD 4 .none = _; rw [hh]; rfl
  rw [hh]
  refine ⟨.inr ⟨by simp, .inl rfl⟩, .inr ⟨by simp, .inl rfl⟩, .inr ⟨by simp, .inl rfl⟩, .inr ⟨by simp, .inr ⟨0, _, _, rfl, rfl, .inl rfl, .inl rfl, .inl rfl, .inr ?_, trivial⟩⟩, .inl ⟨by simp, rfl, by simp⟩, trivial⟩
  exact .osl (cs := app.flatten) (by simp) (by simp [rowCells, hr]) hm hsz (by rw [List.drop_zero, List.take_of_length_le (by rw [flat_sz hsz, hm]; exact Nat.le_refl _)]) ht
theorem acc4 {app : List (List AV)} {m : Nat} (h : app.length = m + 1) : accV [] 4 4 app = .osl 4 m 0 (m + 1) 4 false ∧ ∀ H, accH H [] app = H ++ [.cells m app.flatten] := by
  have hne : app ≠ [] := fun e => by rw [e] at h; cases h
  refine ⟨?_, fun H => ?_⟩
  · rw [accV, if_neg hne, h]; simp
  · rw [accH, if_neg hne, accRow, h]; simp
set_option maxHeartbeats 4000000 in
theorem qblock_step {L : List Int} (hL : ∀ x ∈ L, Small64 x) {D : Nat} (depth : Int) (hd1 : -1000 < depth) (hd2 : depth < 1000) (hS : QC L 71 [.int .i64 (depth - 1)] (VN D)) : QC L 36 [.int .i64 depth] (VN (D + 1)) := by
  have ed : IntKind.i64.wrap (depth - 1) = depth - 1 := wrap_small (by omega) (by omega)
  refine qc_of_body Tryz.func36 rfl (by kernel_rfl) (by simp [Tryz.ntmps36]) rfl fun at0 left => ?_
  simp only [Tryz.ntmps36, enterF, Nat.reduceAdd]
  repeat' (first | with_reducible (first | refine v'1 fun _ _ => ?_ | refine v'2 ?_ | (first | refine v'3 ?_ | refine v'4 ?_ | refine v'5 fun _ _ _ _ => ?_ | refine v'6 (fun hg => ?_) (fun hg => ?_) <;> try simp only [hg]) <;> simp only [wS, simprocAttr, chR] | (first | refine v's ?_ | refine v'e ?_ | refine v'r ?_) <;> try simp only [wE, simprocAttr] | refine v'8 ?_ | refine v'9 ?_))
  refine eg_qc (num_ok hL 4 (by decide)) _ _ (by simp only [wS, simprocAttr, chR]; try exact rfl) ?_
  rintro _ a1 l1 ⟨z, rfl, hz1, hz2⟩ -
  simp only [wS, simprocAttr]
  repeat' (first | with_reducible (first | refine v'1 fun _ _ => ?_ | refine v'2 ?_ | (first | refine v'3 ?_ | refine v'4 ?_ | refine v'5 fun _ _ _ _ => ?_ | refine v'6 (fun hg => ?_) (fun hg => ?_) <;> try simp only [hg]) <;> simp only [wS, simprocAttr] | (first | refine v's ?_ | refine v'e ?_ | refine v'r ?_) <;> try simp only [wE, simprocAttr] | refine v'8 ?_ | refine v'9 ?_))
  rename_i Ka hKa Kb hKb
  replace hKa := And.intro trivial hKa
  refine eg_loop_k (α := {p : List (List AV) × Int × Int // p.1.length ≤ 3 ∧ ∀ e ∈ p.1, NodeV D e}) (fun p => [(0, .ptr 1 0 0), (1, .int .i64 depth), (4, .ptr 2 0 0), (5, .ptr 3 0 0), (6, .int .i64 z), (7, .int .i64 (p.1.1.length : Nat))]) (fun p => accH [.dead, chR L p.1.2.1 p.1.2.2, .cells 0 [.int .i64 0, .int .i64 0, .int .i64 0, .sl true []], .cells 0 [.int .i64 13, .int .i64 0, .int .i64 0, accV [] 4 4 p.1.1]] [] p.1.1) (fun p => 3 - p.1.1.length) ⟨([], a1, l1), by simp, by simp⟩ (Weak.ref ⟨?_, .inl ?_⟩) ?_
  · simp only [wS, simprocAttr]; try exact rfl
  · simp only [wS, simprocAttr, accH, if_true, accV_nil]; try exact rfl
  · rintro ⟨⟨app, a2, l2⟩, hl, hn⟩ K3 hK3
    simp only at hl hn
    by_cases hap : app = []
    · subst hap
      simp only [accH, if_true, accV_nil, List.length_nil, Int.natCast_zero]
      repeat' (first | with_reducible (first | refine v'1 fun _ _ => ?_ | refine v'2 ?_ | (first | refine v'3 ?_ | refine v'4 ?_ | refine v'5 fun _ _ _ _ => ?_ | refine v'6 (fun hg => ?_) (fun hg => ?_) <;> try simp only [hg]) <;> simp only [wS, simprocAttr, chR] | (first | refine v's ?_ | refine v'e ?_ | refine v'r ?_) <;> try simp only [wE, simprocAttr] | refine v'8 ?_ | refine v'9 ?_))
      · have hlt : 0 < 3 := by simp at hg; omega
        refine eg_split (fun h => ?_) (fun h => ?_)
        · repeat' (first | with_reducible (first | refine v'1 fun _ _ => ?_ | refine v'2 ?_ | (first | refine v'3 ?_ | refine v'4 ?_ | refine v'5 fun _ _ _ _ => ?_ | refine v'6 (fun hg => ?_) (fun hg => ?_) <;> try simp only [hg]) <;> simp only [wS, simprocAttr, ed] | (first | refine v's ?_ | refine v'e ?_ | refine v'r ?_) <;> try simp only [wE, simprocAttr] | refine v'8 ?_ | refine v'9 ?_))
          refine eg_qc hS a2 l2 (by simp only [wS, simprocAttr, chR]; try exact rfl) ?_
          rintro _ a3 l3 ⟨c, rfl, hc⟩ -
          obtain ⟨k1, n1, m1, b1, es1, rfl⟩ := node_ex hc
          simp only [wS, simprocAttr]
          refine EG.mono (fun i h => eff_new (es := []) (sz := 4) (by' := 48) (mm := 1) (new := [.int .i64 k1, .int .i64 n1, .int .i64 m1, .sl b1 es1]) (by kernel_rfl) rfl (by simp) (by simp [srcA]) (by decide) (by simp) h) ?_
          simp only [wS, simprocAttr]
          refine eg_and (by kernel_rfl) ?_
          have e3 := wrap_succ (k := 0) hlt (by omega)
          repeat' (first | with_reducible (first | refine v'1 fun _ _ => ?_ | refine v'2 ?_ | (first | refine v'3 ?_ | refine v'4 ?_ | refine v'5 fun _ _ _ _ => ?_ | refine v'6 (fun hg => ?_) (fun hg => ?_) <;> try simp only [hg]) <;> simp only [wS, simprocAttr, e3] | (first | refine v's ?_ | refine v'e ?_ | refine v'r ?_) <;> try simp only [wE, simprocAttr] | refine v'8 ?_ | refine v'9 ?_))
          refine hK3 _ ⟨([] ++ [[.int .i64 k1, .int .i64 n1, .int .i64 m1, .sl b1 es1]], a3, l3), by simp <;> omega, fun e he => by
            rcases List.mem_append.1 he with he | he
            · exact hn e he
            · rw [List.mem_singleton.1 he]; exact hc⟩ (Weak.ref ⟨?_, .inl ?_⟩) (by simp <;> omega)
          · simp only [wS, simprocAttr, List.length_append, List.length_singleton]; try exact rfl
          · simp only [wS, simprocAttr, accH, accV, accRow]; try exact rfl
        · repeat' (first | with_reducible (first | refine v'1 fun _ _ => ?_ | refine v'2 ?_ | (first | refine v'3 ?_ | refine v'4 ?_ | refine v'5 fun _ _ _ _ => ?_ | refine v'6 (fun hg => ?_) (fun hg => ?_) <;> try simp only [hg]) <;> simp only [wS, simprocAttr] | (first | refine v's ?_ | refine v'e ?_ | refine v'r ?_) <;> try simp only [wE, simprocAttr] | refine v'8 ?_ | refine v'9 ?_))
          refine hKa.2.go ?_
          repeat' (first | with_reducible (first | refine v'1 fun _ _ => ?_ | refine v'2 ?_ | (first | refine v'3 ?_ | refine v'4 ?_ | refine v'5 fun _ _ _ _ => ?_ | refine v'6 (fun hg => ?_) (fun hg => ?_) <;> try simp only [hg]) <;> simp only [wS, simprocAttr, chR] | (first | refine v's ?_ | refine v'e ?_ | refine v'r ?_) <;> try simp only [wE, simprocAttr] | refine v'8 ?_ | refine v'9 ?_))
          refine eg_finC rfl (by simp only [wS, simprocAttr]; try exact rfl) (by simp only [wS, simprocAttr, chR]; try exact rfl) ⟨_, rfl, .mk (d := D) (hd := Nat.lt_succ_self D) _ _ _ _ _ (by simp) kids0⟩
      · repeat' (first | with_reducible (first | refine v'1 fun _ _ => ?_ | refine v'2 ?_ | (first | refine v'3 ?_ | refine v'4 ?_ | refine v'5 fun _ _ _ _ => ?_ | refine v'6 (fun hg => ?_) (fun hg => ?_) <;> try simp only [hg]) <;> simp only [wS, simprocAttr] | (first | refine v's ?_ | refine v'e ?_ | refine v'r ?_) <;> try simp only [wE, simprocAttr] | refine v'8 ?_ | refine v'9 ?_))
        refine hKa.2.go ?_
        repeat' (first | with_reducible (first | refine v'1 fun _ _ => ?_ | refine v'2 ?_ | (first | refine v'3 ?_ | refine v'4 ?_ | refine v'5 fun _ _ _ _ => ?_ | refine v'6 (fun hg => ?_) (fun hg => ?_) <;> try simp only [hg]) <;> simp only [wS, simprocAttr, chR] | (first | refine v's ?_ | refine v'e ?_ | refine v'r ?_) <;> try simp only [wE, simprocAttr] | refine v'8 ?_ | refine v'9 ?_))
        refine eg_finC rfl (by simp only [wS, simprocAttr]; try exact rfl) (by simp only [wS, simprocAttr, chR]; try exact rfl) ⟨_, rfl, .mk (d := D) (hd := Nat.lt_succ_self D) _ _ _ _ _ (by simp) kids0⟩
    · obtain ⟨m, hm⟩ : ∃ m, app.length = m + 1 := ⟨app.length - 1, by
        have : app.length ≠ 0 := by simpa using hap
        omega⟩
      obtain ⟨hv, hh⟩ := acc4 hm
      simp only [hv, hh, List.cons_append, List.nil_append]
      repeat' (first | with_reducible (first | refine v'1 fun _ _ => ?_ | refine v'2 ?_ | (first | refine v'3 ?_ | refine v'4 ?_ | refine v'5 fun _ _ _ _ => ?_ | refine v'6 (fun hg => ?_) (fun hg => ?_) <;> try simp only [hg]) <;> simp only [wS, simprocAttr, chR] | (first | refine v's ?_ | refine v'e ?_ | refine v'r ?_) <;> try simp only [wE, simprocAttr] | refine v'8 ?_ | refine v'9 ?_))
      · have hlt : app.length < 3 := by simp at hg; omega
        refine eg_split (fun h => ?_) (fun h => ?_)
        · repeat' (first | with_reducible (first | refine v'1 fun _ _ => ?_ | refine v'2 ?_ | (first | refine v'3 ?_ | refine v'4 ?_ | refine v'5 fun _ _ _ _ => ?_ | refine v'6 (fun hg => ?_) (fun hg => ?_) <;> try simp only [hg]) <;> simp only [wS, simprocAttr, ed] | (first | refine v's ?_ | refine v'e ?_ | refine v'r ?_) <;> try simp only [wE, simprocAttr] | refine v'8 ?_ | refine v'9 ?_))
          refine eg_qc hS a2 l2 (by simp only [wS, simprocAttr, chR]; try exact rfl) ?_
          rintro _ a3 l3 ⟨c, rfl, hc⟩ -
          obtain ⟨k1, n1, m1, b1, es1, rfl⟩ := node_ex hc
          simp only [wS, simprocAttr]
          refine EG.mono (fun i h => eff_own (r := 4) (cs := app.flatten) (sz := 4) (by' := 48) (mm := 1) (new := [.int .i64 k1, .int .i64 n1, .int .i64 m1, .sl b1 es1]) (by kernel_rfl) rfl (by rw [flat_sz (fun e he => (hn e he).len), hm]) (by simp [srcA]) (by omega) h) ?_
          simp only [wS, simprocAttr]
          refine eg_and (by kernel_rfl) ?_
          have e3 := wrap_succ (k := app.length) hlt (by omega)
          repeat' (first | with_reducible (first | refine v'1 fun _ _ => ?_ | refine v'2 ?_ | (first | refine v'3 ?_ | refine v'4 ?_ | refine v'5 fun _ _ _ _ => ?_ | refine v'6 (fun hg => ?_) (fun hg => ?_) <;> try simp only [hg]) <;> simp only [wS, simprocAttr, e3] | (first | refine v's ?_ | refine v'e ?_ | refine v'r ?_) <;> try simp only [wE, simprocAttr] | refine v'8 ?_ | refine v'9 ?_))
          have hm2 : (app ++ [[AV.int .i64 k1, AV.int .i64 n1, AV.int .i64 m1, AV.sl b1 es1]]).length = m + 1 + 1 := by simp [hm]
          obtain ⟨hv2, hh2⟩ := acc4 hm2
          refine hK3 _ ⟨(app ++ [[.int .i64 k1, .int .i64 n1, .int .i64 m1, .sl b1 es1]], a3, l3), by simp <;> omega, fun e he => by
            rcases List.mem_append.1 he with he | he
            · exact hn e he
            · rw [List.mem_singleton.1 he]; exact hc⟩ (Weak.ref ⟨?_, .inl ?_⟩) (by simp <;> omega)
          · simp only [wS, simprocAttr, List.length_append, List.length_singleton]; try exact rfl
          · simp only [wS, simprocAttr, hv2, hh2, List.flatten_append, hm]; try exact rfl
        · repeat' (first | with_reducible (first | refine v'1 fun _ _ => ?_ | refine v'2 ?_ | (first | refine v'3 ?_ | refine v'4 ?_ | refine v'5 fun _ _ _ _ => ?_ | refine v'6 (fun hg => ?_) (fun hg => ?_) <;> try simp only [hg]) <;> simp only [wS, simprocAttr] | (first | refine v's ?_ | refine v'e ?_ | refine v'r ?_) <;> try simp only [wE, simprocAttr] | refine v'8 ?_ | refine v'9 ?_))
          refine hKa.2.go (eg_ref (ref_box (L := L) (a := a2) (l := l2) (app := app) (m := m) [(0, .ptr 1 0 0), (4, .ptr 2 0 0), (5, .ptr 3 0 0)] ?_ hm (fun e he => (hn e he).len) (nodes_tree hn) ?_) ?_)
          · simp only [wS, simprocAttr, chR]; try exact rfl
          · simp only [wS, simprocAttr]; try exact rfl
          repeat' (first | with_reducible (first | refine v'1 fun _ _ => ?_ | refine v'2 ?_ | (first | refine v'3 ?_ | refine v'4 ?_ | refine v'5 fun _ _ _ _ => ?_ | refine v'6 (fun hg => ?_) (fun hg => ?_) <;> try simp only [hg]) <;> simp only [wS, simprocAttr, chR] | (first | refine v's ?_ | refine v'e ?_ | refine v'r ?_) <;> try simp only [wE, simprocAttr] | refine v'8 ?_ | refine v'9 ?_))
          refine eg_finC rfl (by simp only [wS, simprocAttr]; try exact rfl) (by simp only [wS, simprocAttr, chR]; try exact rfl) ⟨_, rfl, .mk (d := D) (hd := Nat.lt_succ_self D) _ _ _ _ _ (by omega) hn⟩
      · repeat' (first | with_reducible (first | refine v'1 fun _ _ => ?_ | refine v'2 ?_ | (first | refine v'3 ?_ | refine v'4 ?_ | refine v'5 fun _ _ _ _ => ?_ | refine v'6 (fun hg => ?_) (fun hg => ?_) <;> try simp only [hg]) <;> simp only [wS, simprocAttr] | (first | refine v's ?_ | refine v'e ?_ | refine v'r ?_) <;> try simp only [wE, simprocAttr] | refine v'8 ?_ | refine v'9 ?_))
        refine hKa.2.go (eg_ref (ref_box (L := L) (a := a2) (l := l2) (app := app) (m := m) [(0, .ptr 1 0 0), (4, .ptr 2 0 0), (5, .ptr 3 0 0)] ?_ hm (fun e he => (hn e he).len) (nodes_tree hn) ?_) ?_)
        · simp only [wS, simprocAttr, chR]; try exact rfl
        · simp only [wS, simprocAttr]; try exact rfl
        repeat' (first | with_reducible (first | refine v'1 fun _ _ => ?_ | refine v'2 ?_ | (first | refine v'3 ?_ | refine v'4 ?_ | refine v'5 fun _ _ _ _ => ?_ | refine v'6 (fun hg => ?_) (fun hg => ?_) <;> try simp only [hg]) <;> simp only [wS, simprocAttr, chR] | (first | refine v's ?_ | refine v'e ?_ | refine v'r ?_) <;> try simp only [wE, simprocAttr] | refine v'8 ?_ | refine v'9 ?_))
        refine eg_finC rfl (by simp only [wS, simprocAttr]; try exact rfl) (by simp only [wS, simprocAttr, chR]; try exact rfl) ⟨_, rfl, .mk (d := D) (hd := Nat.lt_succ_self D) _ _ _ _ _ (by omega) hn⟩
end Go.Proofs.YtblfpppnkdokdaaGreatDoor
set_option linter.unusedVariables false
set_option linter.unusedSimpArgs false
namespace Go.Proofs.YtblfpppnkdokdaaGreatDoor
open Go.AM
attribute [local irreducible] AWp rgnS callR callV effR valR guardR stepR nextR
set_option maxRecDepth 100000
set_option maxHeartbeats 16000000 in
theorem stmt_0 {L : List Int} (hL : ∀ x ∈ L, Small64 x) : QC L 71 [.int .i64 0] (VN 4) := by
  refine qc_of_body Tryz.func71 rfl (by kernel_rfl) (by simp [Tryz.ntmps71]) rfl fun at0 left => ?_
  simp only [Tryz.ntmps71, enterF, Nat.reduceAdd]
  repeat' (first | with_reducible (first | refine v'1 fun _ _ => ?_ | refine v'2 ?_ | (first | refine v'3 ?_ | refine v'4 ?_ | refine v'5 fun _ _ _ _ => ?_ | refine v'6 (fun hg => ?_) (fun hg => ?_) <;> try simp only [hg]) <;> simp only [wS, simprocAttr, chR] | (first | refine v's ?_ | refine v'e ?_ | refine v'r ?_) <;> try simp only [wE, simprocAttr] | refine v'8 ?_ | refine v'9 ?_))
  refine eg_qc (num_ok hL 14 (by decide)) _ _ (by simp only [wS, simprocAttr, chR]; try exact rfl) ?_
  rintro _ _ _ ⟨z, rfl, hz1, hz2⟩ -
  have hz : z = 0 ∨ z = 1 ∨ z = 2 ∨ z = 3 ∨ z = 4 ∨ z = 5 ∨ z = 6 ∨ z = 7 ∨ z = 8 ∨ z = 9 ∨ z = 10 ∨ z = 11 ∨ z = 12 ∨ z = 13 := by omega
  rcases hz with rfl | rfl | rfl | rfl | rfl | rfl | rfl | rfl | rfl | rfl | rfl | rfl | rfl | rfl
  all_goals simp only [wS, simprocAttr, chR]
  all_goals repeat' (first | with_reducible (first | refine v'1 fun _ _ => ?_ | refine v'2 ?_ | (first | refine v'3 ?_ | refine v'4 ?_ | refine v'5 fun _ _ _ _ => ?_ | refine v'6 (fun hg => ?_) (fun hg => ?_) <;> try simp only [hg]) <;> simp only [wS, simprocAttr, chR] | (first | refine v's ?_ | refine v'e ?_ | refine v'r ?_) <;> try simp only [wE, simprocAttr] | refine v'8 ?_ | refine v'9 ?_) | (refine eg_qc (num_ok hL _ (by decide)) _ _ (by simp only [wS, simprocAttr, chR]; try exact rfl) ?_; rintro _ _ _ ⟨z, rfl, hz1, hz2⟩ -; simp only [wS, simprocAttr, chR]) | (refine eg_qc (expr_2 hL) _ _ (by simp only [wS, simprocAttr, chR]; try exact rfl) ?_; rintro _ _ _ ⟨c, rfl, hc⟩ -; obtain ⟨k, n, m, b, es, rfl⟩ := node_ex hc; simp only [wS, simprocAttr, chR]) | (refine eg_qc (some_ok hL 2 (by decide) (by decide) (expr_1 hL)) _ _ (by simp only [wS, simprocAttr, chR]; try exact rfl) ?_; rintro _ _ _ ⟨b, es, rfl, hl, hes⟩ -; simp only [wS, simprocAttr, chR]) | refine eg_and (by kernel_rfl) ?_ | refine eg_split (fun _ => ?_) (fun _ => ?_))
  all_goals
    refine eg_finC rfl (by simp only [wS, simprocAttr]; exact rfl) (by simp only [wS, simprocAttr, chR]; exact rfl) (by first | exact ⟨_, rfl, NodeV.up (by assumption) (by omega)⟩ | exact ⟨_, rfl, .mk (d := 3) (hd := by omega) _ _ _ _ _ (by first | assumption | omega | simp) (by first | exact kids0 | exact kids1 (by first | assumption | exact (leafV _ _ _ _).up (by omega) | exact NodeV.up (by assumption) (by omega)) | exact kids2 (by first | assumption | exact (leafV _ _ _ _).up (by omega) | exact NodeV.up (by assumption) (by omega)) (by first | assumption | exact (leafV _ _ _ _).up (by omega) | exact NodeV.up (by assumption) (by omega)) | exact kids3 (by first | assumption | exact (leafV _ _ _ _).up (by omega) | exact NodeV.up (by assumption) (by omega)) (by first | assumption | exact (leafV _ _ _ _).up (by omega) | exact NodeV.up (by assumption) (by omega)) (by first | assumption | exact (leafV _ _ _ _).up (by omega) | exact NodeV.up (by assumption) (by omega)) | exact (fun e he => NodeV.up ((by assumption : ∀ e ∈ _, NodeV _ e) e he) (by omega)))⟩)
set_option maxHeartbeats 16000000 in
theorem qstmt_step {L : List Int} (hL : ∀ x ∈ L, Small64 x) {D : Nat} (hD : 4 ≤ D) (depth : Int) (hd : 0 < depth) (hB : QC L 36 [.int .i64 depth] (VN D)) : QC L 71 [.int .i64 depth] (VN (D + 1)) := by
  have hdp : decide (depth ≤ 0) = false := by simp; omega
  refine qc_of_body Tryz.func71 rfl (by kernel_rfl) (by simp [Tryz.ntmps71]) rfl fun at0 left => ?_
  simp only [Tryz.ntmps71, enterF, Nat.reduceAdd]
  repeat' (first | with_reducible (first | refine v'1 fun _ _ => ?_ | refine v'2 ?_ | (first | refine v'3 ?_ | refine v'4 ?_ | refine v'5 fun _ _ _ _ => ?_ | refine v'6 (fun hg => ?_) (fun hg => ?_) <;> try simp only [hg]) <;> simp only [wS, simprocAttr, chR, hdp] | (first | refine v's ?_ | refine v'e ?_ | refine v'r ?_) <;> try simp only [wE, simprocAttr] | refine v'8 ?_ | refine v'9 ?_) | (refine eg_qc (num_ok hL _ (by decide)) _ _ (by simp only [wS, simprocAttr, chR, hdp]; try exact rfl) ?_; rintro _ _ _ ⟨z, rfl, hz1, hz2⟩ -; simp only [wS, simprocAttr, chR, hdp]) | (refine eg_qc (expr_2 hL) _ _ (by simp only [wS, simprocAttr, chR, hdp]; try exact rfl) ?_; rintro _ _ _ ⟨c, rfl, hc⟩ -; obtain ⟨k, n, m, b, es, rfl⟩ := node_ex hc; simp only [wS, simprocAttr, chR, hdp]) | (refine eg_qc (some_ok hL 2 (by decide) (by decide) (expr_1 hL)) _ _ (by simp only [wS, simprocAttr, chR, hdp]; try exact rfl) ?_; rintro _ _ _ ⟨b, es, rfl, hl, hes⟩ -; simp only [wS, simprocAttr, chR, hdp]) | refine eg_and (by kernel_rfl) ?_ | (refine eg_qc (hB) _ _ (by simp only [wS, simprocAttr, chR, hdp]; try exact rfl) ?_; rintro _ _ _ ⟨c, rfl, hc⟩ -; obtain ⟨k, n, m, b, es, rfl⟩ := node_ex hc; simp only [wS, simprocAttr, chR, hdp]) | refine eg_split (fun _ => ?_) (fun _ => ?_))
  all_goals
    refine eg_finC rfl (by simp only [wS, simprocAttr]; exact rfl) (by simp only [wS, simprocAttr, chR]; exact rfl) (by first | exact ⟨_, rfl, NodeV.up (by assumption) (by omega)⟩ | exact ⟨_, rfl, .mk (d := D) (hd := by omega) _ _ _ _ _ (by first | assumption | omega | simp) (by first | exact kids0 | exact kids1 (by first | assumption | exact (leafV _ _ _ _).up (by omega) | exact NodeV.up (by assumption) (by omega)) | exact kids2 (by first | assumption | exact (leafV _ _ _ _).up (by omega) | exact NodeV.up (by assumption) (by omega)) (by first | assumption | exact (leafV _ _ _ _).up (by omega) | exact NodeV.up (by assumption) (by omega)) | exact kids3 (by first | assumption | exact (leafV _ _ _ _).up (by omega) | exact NodeV.up (by assumption) (by omega)) (by first | assumption | exact (leafV _ _ _ _).up (by omega) | exact NodeV.up (by assumption) (by omega)) (by first | assumption | exact (leafV _ _ _ _).up (by omega) | exact NodeV.up (by assumption) (by omega)) | exact (fun e he => NodeV.up ((by assumption : ∀ e ∈ _, NodeV _ e) e he) (by omega)))⟩)
theorem block_4 {L : List Int} (hL : ∀ x ∈ L, Small64 x) : QC L 36 [.int .i64 4] (VN 11) :=
  qblock_step hL 4 (by decide) (by decide) (qstmt_step hL (by decide) 3 (by decide) (qblock_step hL 3 (by decide) (by decide) (qstmt_step hL (by decide) 2 (by decide) (qblock_step hL 2 (by decide) (by decide) (qstmt_step hL (by decide) 1 (by decide) (qblock_step hL 1 (by decide) (by decide) (stmt_0 hL)))))))
end Go.Proofs.YtblfpppnkdokdaaGreatDoor
