import Derived.Test.YtblfpppnkdokdaaGreatDoorAE
import Derived.Test.YtblfpppnkdokdaaGreatDoorC5
import Derived.Test.YtblfpppnkdokdaaGreatDoorV0
set_option linter.unusedVariables false
set_option linter.unusedSimpArgs false
namespace Go.Proofs.YtblfpppnkdokdaaGreatDoor
open Go.AM
attribute [local irreducible] AWp rgnS callR callV effR valR guardR stepR nextR
set_option maxRecDepth 100000
theorem heads_rv1 {r v sz : Nat} {app : List (List AV)} : heads (rv r v sz app) = [r] := by
  unfold rv; split <;> rfl
theorem toCells_rv1 {r v sz : Nat} {app : List (List AV)} : AV.toCells (rv r v sz app) = some [rv r v sz app] := by
  unfold rv; split <;> rfl
theorem rv_in {p : Nat → Bool} {v d : Nat} {app : List (List AV)} (h : ∀ e ∈ app, NodeV d e) : rowIn p (rvR v app) = true := rowIn_rv (inE_no (nodes_tree h))
theorem ref_rs3 [Rnd] {r0 r1 : ARow} {a b c : AV} {n : Nat} {s : AS} (fs : List (Nat × AV)) (hh : s.h = [r0, r1, .cells 0 [a, b, c, .sl true []]]) (hl : holdsF fs s.get) (hf : (fs.all fun p => inR (fun r => decide (r < 4)) p.2) = true) (h0 : rowIn (fun r => decide (r < 4)) r0 = true) (h1 : rowIn (fun r => decide (r < 4)) r1 = true) (ha : inL (fun r => decide (r < 4)) [a, b, c] = true) :
    Ref G0 n 0 s ⟨mkF fs, [r0, r1, .cells 0 [a, b, c, .rsv 3], .none]⟩ := by
  refine ref_to [] (fun r => decide (r < 4)) hG0 (fun r hr => absurd hr (Nat.not_lt_zero r)) (frzF_same hl) hf ?_
  rw [hh]
  have hk : ∀ (r : Nat) (y : ARow), FrzRow s.row [] r y y := fun r y => .inr ⟨.inl (by simp), .inl rfl⟩
  simp only [inL, Bool.and_true, Bool.and_eq_true] at ha
  simp only [ToH, and_true]
  exact ⟨.inr ⟨rfl, h0, hk _ _⟩, .inr ⟨rfl, h1, hk _ _⟩, .inr ⟨rfl, by (simp only [rowIn, inL, inR, ha.1, ha.2.1, ha.2.2, Bool.and_self, Bool.and_true, Bool.true_and]; try rfl), .inr ⟨.inl (by simp), .inr ⟨0, _, _, rfl, rfl, .inl rfl, .inl rfl, .inl rfl, .inr .toRsv, trivial⟩⟩⟩⟩
theorem ref_rs5 [Rnd] {r0 r1 r2 r3 : ARow} {a b c : AV} {n : Nat} {s : AS} (fs : List (Nat × AV)) (hh : s.h = [r0, r1, r2, r3, .cells 0 [a, b, c, .sl true []]]) (hl : holdsF fs s.get) (hf : (fs.all fun p => inR (fun r => decide (r < 6)) p.2) = true) (h0 : rowIn (fun r => decide (r < 6)) r0 = true) (h1 : rowIn (fun r => decide (r < 6)) r1 = true) (h2 : rowIn (fun r => decide (r < 6)) r2 = true) (h3 : rowIn (fun r => decide (r < 6)) r3 = true) (ha : inL (fun r => decide (r < 6)) [a, b, c] = true) :
    Ref G0 n 0 s ⟨mkF fs, [r0, r1, r2, r3, .cells 0 [a, b, c, .rsv 5], .none]⟩ := by
  refine ref_to [] (fun r => decide (r < 6)) hG0 (fun r hr => absurd hr (Nat.not_lt_zero r)) (frzF_same hl) hf ?_
  rw [hh]
  have hk : ∀ (r : Nat) (y : ARow), FrzRow s.row [] r y y := fun r y => .inr ⟨.inl (by simp), .inl rfl⟩
  simp only [inL, Bool.and_true, Bool.and_eq_true] at ha
  simp only [ToH, and_true]
  exact ⟨.inr ⟨rfl, h0, hk _ _⟩, .inr ⟨rfl, h1, hk _ _⟩, .inr ⟨rfl, h2, hk _ _⟩, .inr ⟨rfl, h3, hk _ _⟩, .inr ⟨rfl, by (simp only [rowIn, inL, inR, ha.1, ha.2.1, ha.2.2, Bool.and_self, Bool.and_true, Bool.true_and]; try rfl), .inr ⟨.inl (by simp), .inr ⟨0, _, _, rfl, rfl, .inl rfl, .inl rfl, .inl rfl, .inr .toRsv, trivial⟩⟩⟩⟩
set_option maxHeartbeats 8000000 in
theorem sample_ok (L : List Int) (hL : ∀ x ∈ L, Small64 x) : EP Tryz.prog G0 9 [encI L] (VN 14) := by
  refine ep_of_body hG0 Tryz.func9 rfl (by kernel_rfl) (by simp [Tryz.ntmps9]) (by simp [inL, tree_encI]) (fun _ => VN.tree) ?_
  simp only [Tryz.ntmps9, enterF, Nat.reduceAdd]
  obtain ⟨el, hel⟩ : ∃ es, encI L = .sl false es := ⟨_, rfl⟩
  rw [hel]
  repeat' (first | with_reducible (first | refine v'1 fun _ _ => ?_ | refine v'2 ?_ | (first | refine v'3 ?_ | refine v'4 ?_ | refine v'5 fun _ _ _ _ => ?_ | refine v'6 (fun hg => ?_) (fun hg => ?_) <;> try simp only [hg]) <;> simp only [wS, simprocAttr] | (first | refine v's ?_ | refine v'e ?_ | refine v'r ?_) <;> try simp only [wE, simprocAttr] | refine v'8 ?_ | refine v'9 ?_))
  refine eg_qc (num_ok hL 4 (by decide)) 0 0 (by simp only [wS, simprocAttr, chR, hel]; try exact rfl) ?_
  rintro _ a1 l1 ⟨pn, rfl, hp1, hp2⟩ -
  simp only [wS, simprocAttr]
  repeat' (first | with_reducible (first | refine v'1 fun _ _ => ?_ | refine v'2 ?_ | (first | refine v'3 ?_ | refine v'4 ?_ | refine v'5 fun _ _ _ _ => ?_ | refine v'6 (fun hg => ?_) (fun hg => ?_) <;> try simp only [hg]) <;> simp only [wS, simprocAttr] | (first | refine v's ?_ | refine v'e ?_ | refine v'r ?_) <;> try simp only [wE, simprocAttr] | refine v'8 ?_ | refine v'9 ?_))
  refine eg_qc (num_ok hL 3 (by decide)) _ _ (by simp only [wS, simprocAttr, chR]; try exact rfl) ?_
  rintro _ a2 l2 ⟨z, rfl, hz1, hz2⟩ -
  obtain ⟨nn, hnn⟩ : ∃ x : Int, x = 1 + z := ⟨_, rfl⟩
  have ez : IntKind.i64.wrap nn = nn := wrap_small (by omega) (by omega)
  have hn1 : 1 ≤ nn := by omega
  have hn3 : nn ≤ 3 := by omega
  simp only [wS, simprocAttr, ez, ← hnn]
  repeat' (first | with_reducible (first | refine v'1 fun _ _ => ?_ | refine v'2 ?_ | (first | refine v'3 ?_ | refine v'4 ?_ | refine v'5 fun _ _ _ _ => ?_ | refine v'6 (fun hg => ?_) (fun hg => ?_) <;> try simp only [hg]) <;> simp only [wS, simprocAttr, ez, ← hnn] | (first | refine v's ?_ | refine v'e ?_ | refine v'r ?_) <;> try simp only [wE, simprocAttr] | refine v'8 ?_ | refine v'9 ?_))
  refine eg_loop_k (α := {p : List (List AV) × Int × Int // p.1.length ≤ 3 ∧ ∀ e ∈ p.1, NodeV 12 e}) (fun p => [(2, .ptr 0 0 0), (3, .ptr 1 0 0), (4, .ptr 2 0 0), (5, .int .i64 nn), (6, .int .i64 (p.1.1.length : Nat))]) (fun p => [.cells 0 [.int .i64 0, .int .i64 0, .int .i64 0, .sl true []], chR L p.1.2.1 p.1.2.2, .cells 0 [.int .i64 27, .int .i64 pn, .int .i64 0, rv 3 (p.1.1.length - 1) 4 p.1.1], rvR (p.1.1.length - 1) p.1.1]) (fun p => 3 - p.1.1.length) ⟨([], a2, l2), by simp, by simp⟩ (ref_rs3 _ ?_ ?_ ?_ rfl (chR_in _ _ _ _) rfl) ?_
  · simp only [wS, simprocAttr]; try exact rfl
  · simp only [wS, simprocAttr]; try exact rfl
  · rfl
  · rintro ⟨⟨app, a3, l3⟩, hl, hn⟩ K1 hK1
    simp only at hl hn
    repeat' (first | with_reducible (first | refine v'1 fun _ _ => ?_ | refine v'2 ?_ | (first | refine v'3 ?_ | refine v'4 ?_ | refine v'5 fun _ _ _ _ => ?_ | refine v'6 (fun hg => ?_) (fun hg => ?_) <;> try simp only [hg]) <;> simp only [wS, simprocAttr, chR, ↓heads_rv1, ↓toCells_rv1] | (first | refine v's ?_ | refine v'e ?_ | refine v'r ?_) <;> try simp only [wE, simprocAttr] | refine v'8 ?_ | refine v'9 ?_))
    refine eg_split (fun h => ?_) (fun h => ?_)
    · have hlt : app.length < 3 := by simp at h; omega
      clear h
      repeat' (first | with_reducible (first | refine v'1 fun _ _ => ?_ | refine v'2 ?_ | (first | refine v'3 ?_ | refine v'4 ?_ | refine v'5 fun _ _ _ _ => ?_ | refine v'6 (fun hg => ?_) (fun hg => ?_) <;> try simp only [hg]) <;> simp only [wS, simprocAttr, chR, ↓heads_rv1, ↓toCells_rv1] | (first | refine v's ?_ | refine v'e ?_ | refine v'r ?_) <;> try simp only [wE, simprocAttr] | refine v'8 ?_ | refine v'9 ?_))
      refine eg_qc (num_ok hL 4 (by decide)) _ _ (by simp only [wS, simprocAttr, chR]; try exact rfl) ?_
      rintro _ b1 c1 ⟨w, rfl, hw1, hw2⟩ -
      simp only [wS, simprocAttr, ↓heads_rv1, ↓toCells_rv1]
      repeat' (first | with_reducible (first | refine v'1 fun _ _ => ?_ | refine v'2 ?_ | (first | refine v'3 ?_ | refine v'4 ?_ | refine v'5 fun _ _ _ _ => ?_ | refine v'6 (fun hg => ?_) (fun hg => ?_) <;> try simp only [hg]) <;> simp only [wS, simprocAttr, ↓heads_rv1, ↓toCells_rv1] | (first | refine v's ?_ | refine v'e ?_ | refine v'r ?_) <;> try simp only [wE, simprocAttr] | refine v'8 ?_ | refine v'9 ?_))
      refine eg_loop_k (α := {p : List (List AV) × Int × Int // p.1.length ≤ 3 ∧ ∀ e ∈ p.1, NodeV 11 e}) (fun p => [(2, .ptr 0 0 0), (3, .ptr 1 0 0), (4, .ptr 2 0 0), (5, .int .i64 nn), (6, .int .i64 (app.length : Nat)), (7, .ptr 4 0 0), (8, .int .i64 (p.1.1.length : Nat))]) (fun p => [.cells 0 [.int .i64 0, .int .i64 0, .int .i64 0, .sl true []], chR L p.1.2.1 p.1.2.2, .cells 0 [.int .i64 27, .int .i64 pn, .int .i64 0, rv 3 (app.length - 1) 4 app], rvR (app.length - 1) app, .cells 0 [.int .i64 26, .int .i64 w, .int .i64 0, rv 5 (p.1.1.length - 1) 4 p.1.1], rvR (p.1.1.length - 1) p.1.1]) (fun p => 3 - p.1.1.length) ⟨([], b1, c1), by simp, by simp⟩ (ref_rs5 _ ?_ ?_ ?_ rfl (chR_in _ _ _ _) ?_ (rv_in hn) rfl) ?_
      · simp only [wS, simprocAttr]; try exact rfl
      · simp only [wS, simprocAttr]; try exact rfl
      · rfl
      · simp only [rowIn, inL, inR, Bool.true_and, Bool.and_true]; exact inR_rv rfl
      · rintro ⟨⟨ks, b2, c2⟩, hl2, hn2⟩ K3 hK3
        simp only at hl2 hn2
        repeat' (first | with_reducible (first | refine v'1 fun _ _ => ?_ | refine v'2 ?_ | (first | refine v'3 ?_ | refine v'4 ?_ | refine v'5 fun _ _ _ _ => ?_ | refine v'6 (fun hg => ?_) (fun hg => ?_) <;> try simp only [hg]) <;> simp only [wS, simprocAttr, ↓heads_rv1, ↓toCells_rv1] | (first | refine v's ?_ | refine v'e ?_ | refine v'r ?_) <;> try simp only [wE, simprocAttr] | refine v'8 ?_ | refine v'9 ?_))
        refine eg_split (fun h => ?_) (fun h => ?_)
        · have hk3 : ks.length < 3 := by simp at h; omega
          have e3 := wrap_succ (k := ks.length) hk3 (by omega)
          repeat' (first | with_reducible (first | refine v'1 fun _ _ => ?_ | refine v'2 ?_ | (first | refine v'3 ?_ | refine v'4 ?_ | refine v'5 fun _ _ _ _ => ?_ | refine v'6 (fun hg => ?_) (fun hg => ?_) <;> try simp only [hg]) <;> simp only [wS, simprocAttr, ↓heads_rv1, ↓toCells_rv1, chR] | (first | refine v's ?_ | refine v'e ?_ | refine v'r ?_) <;> try simp only [wE, simprocAttr] | refine v'8 ?_ | refine v'9 ?_))
          refine eg_qc (num_ok hL 2 (by decide)) b2 c2 (by simp only [wS, simprocAttr, chR]; try exact rfl) ?_
          rintro _ b3 c3 ⟨x, rfl, hx1, hx2⟩ -
          simp only [wS, simprocAttr, ↓heads_rv1, ↓toCells_rv1]
          refine EG.mono (fun i h => eff_rv1 (app := ks) (e := [.int .i64 x, .int .i64 0, .int .i64 0, .sl true []]) (by' := 48) (by kernel_rfl) (by (simp only [wS, simprocAttr]; try exact rfl)) (fun e he => (hn2 e he).len) (by simp [srcA]) (by omega) h) ?_
          simp only [wS, simprocAttr, ↓heads_rv1, ↓toCells_rv1]
          refine eg_and (by kernel_rfl) ?_
          repeat' (first | with_reducible (first | refine v'1 fun _ _ => ?_ | refine v'2 ?_ | (first | refine v'3 ?_ | refine v'4 ?_ | refine v'5 fun _ _ _ _ => ?_ | refine v'6 (fun hg => ?_) (fun hg => ?_) <;> try simp only [hg]) <;> simp only [wS, simprocAttr, e3, ↓heads_rv1, ↓toCells_rv1] | (first | refine v's ?_ | refine v'e ?_ | refine v'r ?_) <;> try simp only [wE, simprocAttr] | refine v'8 ?_ | refine v'9 ?_))
          refine hK3 _ ⟨(ks ++ [[.int .i64 x, .int .i64 0, .int .i64 0, .sl true []]], b3, c3), by simp <;> omega, (fun e he => by
              rcases List.mem_append.1 he with he | he
              · exact hn2 e he
              · rw [List.mem_singleton.1 he]; exact (leafV _ _ _ _).up (by decide))⟩ (Weak.ref ⟨?_, .inl ?_⟩) (by simp <;> omega)
          · simp only [wS, simprocAttr, List.length_append, List.length_singleton, Nat.add_sub_cancel]; try exact rfl
          · simp only [wS, simprocAttr, List.length_append, List.length_singleton, Nat.add_sub_cancel]; try exact rfl
        · repeat' (first | with_reducible (first | refine v'1 fun _ _ => ?_ | refine v'2 ?_ | (first | refine v'3 ?_ | refine v'4 ?_ | refine v'5 fun _ _ _ _ => ?_ | refine v'6 (fun hg => ?_) (fun hg => ?_) <;> try simp only [hg]) <;> simp only [wS, simprocAttr, ↓heads_rv1, ↓toCells_rv1, chR] | (first | refine v's ?_ | refine v'e ?_ | refine v'r ?_) <;> try simp only [wE, simprocAttr] | refine v'8 ?_ | refine v'9 ?_))
          refine eg_qc (num_ok hL 3 (by decide)) b2 c2 (by simp only [wS, simprocAttr, chR]; try exact rfl) ?_
          rintro _ b4 c4 ⟨y, rfl, hy1, hy2⟩ -
          simp only [wS, simprocAttr, ↓heads_rv1, ↓toCells_rv1]
          repeat' (first | with_reducible (first | refine v'1 fun _ _ => ?_ | refine v'2 ?_ | (first | refine v'3 ?_ | refine v'4 ?_ | refine v'5 fun _ _ _ _ => ?_ | refine v'6 (fun hg => ?_) (fun hg => ?_) <;> try simp only [hg]) <;> simp only [wS, simprocAttr, ↓heads_rv1, ↓toCells_rv1] | (first | refine v's ?_ | refine v'e ?_ | refine v'r ?_) <;> try simp only [wE, simprocAttr] | refine v'8 ?_ | refine v'9 ?_))
          refine eg_loop_k (α := {p : List (List AV) × Nat × Int × Int // p.1.length ≤ 3 + p.2.1 ∧ p.2.1 ≤ 2 ∧ ∀ e ∈ p.1, NodeV 11 e}) (fun p => [(2, .ptr 0 0 0), (3, .ptr 1 0 0), (4, .ptr 2 0 0), (5, .int .i64 nn), (6, .int .i64 (app.length : Nat)), (7, .ptr 4 0 0), (9, .int .i64 y), (10, .int .i64 (p.1.2.1 : Nat))]) (fun p => [.cells 0 [.int .i64 0, .int .i64 0, .int .i64 0, .sl true []], chR L p.1.2.2.1 p.1.2.2.2, .cells 0 [.int .i64 27, .int .i64 pn, .int .i64 0, rv 3 (app.length - 1) 4 app], rvR (app.length - 1) app, .cells 0 [.int .i64 26, .int .i64 w, .int .i64 0, rv 5 (p.1.1.length - 1) 4 p.1.1], rvR (p.1.1.length - 1) p.1.1]) (fun p => 2 - p.1.2.1) ⟨(ks, 0, b4, c4), by simp <;> omega, by simp, hn2⟩ (Weak.ref ⟨?_, .inl ?_⟩) ?_
          · simp only [wS, simprocAttr]; try exact rfl
          · simp only [wS, simprocAttr]; try exact rfl
          · clear hl2 hn2 hK3 h
            rintro ⟨⟨ks, jj, b2, c2⟩, hl2, hj2, hn2⟩ K3 hK3
            simp only at hl2 hj2 hn2
            repeat' (first | with_reducible (first | refine v'1 fun _ _ => ?_ | refine v'2 ?_ | (first | refine v'3 ?_ | refine v'4 ?_ | refine v'5 fun _ _ _ _ => ?_ | refine v'6 (fun hg => ?_) (fun hg => ?_) <;> try simp only [hg]) <;> simp only [wS, simprocAttr, ↓heads_rv1, ↓toCells_rv1] | (first | refine v's ?_ | refine v'e ?_ | refine v'r ?_) <;> try simp only [wE, simprocAttr] | refine v'8 ?_ | refine v'9 ?_))
            refine eg_split (fun h => ?_) (fun h => ?_)
            · have hk3 : jj < 2 := by simp at h; omega
              have e3 := wrap_succ (k := jj) hk3 (by omega)
              repeat' (first | with_reducible (first | refine v'1 fun _ _ => ?_ | refine v'2 ?_ | (first | refine v'3 ?_ | refine v'4 ?_ | refine v'5 fun _ _ _ _ => ?_ | refine v'6 (fun hg => ?_) (fun hg => ?_) <;> try simp only [hg]) <;> simp only [wS, simprocAttr, ↓heads_rv1, ↓toCells_rv1, chR] | (first | refine v's ?_ | refine v'e ?_ | refine v'r ?_) <;> try simp only [wE, simprocAttr] | refine v'8 ?_ | refine v'9 ?_))
              refine eg_qc (kind_ok hL) b2 c2 (by simp only [wS, simprocAttr, chR]; try exact rfl) ?_
              rintro _ b5 c5 ⟨c, rfl, hc⟩ -
              obtain ⟨k1, n1, m1, b1', es1, rfl⟩ := node_ex hc
              simp only [wS, simprocAttr, ↓heads_rv1, ↓toCells_rv1]
              refine EG.mono (fun i h => eff_rv1 (app := ks) (e := [.int .i64 k1, .int .i64 n1, .int .i64 m1, .sl b1' es1]) (by' := 48) (by kernel_rfl) (by (simp only [wS, simprocAttr]; try exact rfl)) (fun e he => (hn2 e he).len) (by simp [srcA]) (by omega) h) ?_
              simp only [wS, simprocAttr, ↓heads_rv1, ↓toCells_rv1]
              refine eg_and (by kernel_rfl) ?_
              repeat' (first | with_reducible (first | refine v'1 fun _ _ => ?_ | refine v'2 ?_ | (first | refine v'3 ?_ | refine v'4 ?_ | refine v'5 fun _ _ _ _ => ?_ | refine v'6 (fun hg => ?_) (fun hg => ?_) <;> try simp only [hg]) <;> simp only [wS, simprocAttr, e3, ↓heads_rv1, ↓toCells_rv1] | (first | refine v's ?_ | refine v'e ?_ | refine v'r ?_) <;> try simp only [wE, simprocAttr] | refine v'8 ?_ | refine v'9 ?_))
              refine hK3 _ ⟨(ks ++ [[.int .i64 k1, .int .i64 n1, .int .i64 m1, .sl b1' es1]], jj + 1, b5, c5), by simp <;> omega, (by show jj + 1 ≤ 2; omega), (fun e he => by
                  rcases List.mem_append.1 he with he | he
                  · exact hn2 e he
                  · rw [List.mem_singleton.1 he]; exact hc.up (by decide))⟩ (Weak.ref ⟨?_, .inl ?_⟩) (by simp <;> omega)
              · simp only [wS, simprocAttr, List.length_append, List.length_singleton, Nat.add_sub_cancel]; try exact rfl
              · simp only [wS, simprocAttr, List.length_append, List.length_singleton, Nat.add_sub_cancel]; try exact rfl
            · repeat' (first | with_reducible (first | refine v'1 fun _ _ => ?_ | refine v'2 ?_ | (first | refine v'3 ?_ | refine v'4 ?_ | refine v'5 fun _ _ _ _ => ?_ | refine v'6 (fun hg => ?_) (fun hg => ?_) <;> try simp only [hg]) <;> simp only [wS, simprocAttr, ↓heads_rv1, ↓toCells_rv1, chR] | (first | refine v's ?_ | refine v'e ?_ | refine v'r ?_) <;> try simp only [wE, simprocAttr] | refine v'8 ?_ | refine v'9 ?_))
              refine eg_qc (block_4 hL) b2 c2 (by simp only [wS, simprocAttr, chR]; try exact rfl) ?_
              rintro _ b5 c5 ⟨c, rfl, hc⟩ -
              obtain ⟨k1, n1, m1, b1', es1, rfl⟩ := node_ex hc
              simp only [wS, simprocAttr, ↓heads_rv1, ↓toCells_rv1]
              refine EG.mono (fun i h => eff_rv1 (app := ks) (e := [.int .i64 k1, .int .i64 n1, .int .i64 m1, .sl b1' es1]) (by' := 48) (by kernel_rfl) (by (simp only [wS, simprocAttr]; try exact rfl)) (fun e he => (hn2 e he).len) (by simp [srcA]) (by omega) h) ?_
              simp only [wS, simprocAttr, ↓heads_rv1, ↓toCells_rv1]
              refine eg_and (by kernel_rfl) ?_
              have hfk : ∀ e ∈ (ks ++ [[AV.int .i64 k1, .int .i64 n1, .int .i64 m1, .sl b1' es1]]), NodeV 11 e := (fun e he => by
                  rcases List.mem_append.1 he with he | he
                  · exact hn2 e he
                  · rw [List.mem_singleton.1 he]; exact hc)
              have hfl : (ks ++ [[AV.int .i64 k1, .int .i64 n1, .int .i64 m1, .sl b1' es1]]).length = ks.length + 1 := by simp
              have hfn : NodeV 12 [.int .i64 26, .int .i64 w, .int .i64 0, .sl false (ks ++ [[.int .i64 k1, .int .i64 n1, .int .i64 m1, .sl b1' es1]])] := .mk (d := 11) (hd := by decide) _ _ _ _ _ (by rw [hfl]; omega) hfk
              have hal := rv_in (p := fun r => decide (r < 5)) (v := app.length - 1) hn
              refine ContE.go (by assumption) (eg_ref (ref_to [5] (fun r => decide (r < 5)) (l := [(2, .ptr 0 0 0), (3, .ptr 1 0 0), (4, .ptr 2 0 0), (5, .int .i64 nn), (6, .int .i64 (app.length : Nat)), (7, .ptr 4 0 0)]) (h := [.cells 0 [.int .i64 0, .int .i64 0, .int .i64 0, .sl true []], chR L b5 c5, .cells 0 [.int .i64 27, .int .i64 pn, .int .i64 0, rv 3 (app.length - 1) 4 app], rvR (app.length - 1) app, .cells 0 [.int .i64 26, .int .i64 w, .int .i64 0, .sl false (ks ++ [[.int .i64 k1, .int .i64 n1, .int .i64 m1, .sl b1' es1]])]]) hG0 (fun r hr => absurd hr (Nat.not_lt_zero r)) ?_ ?_ ?_) ?_)
              · simp only [wS, simprocAttr, FrzF, Frz, and_true, true_or]; try exact trivial
              · simp only [List.all_cons, List.all_nil, inR, Bool.and_true, Nat.reduceLT, decide_true, Bool.and_self]
              · simp only [wS, simprocAttr]
                simp only [ToH, and_true]
                refine ⟨.inr ⟨rfl, rfl, .inr ⟨.inl (by simp), .inl rfl⟩⟩, .inr ⟨rfl, chR_in _ _ _ _, .inr ⟨.inl (by simp), .inl rfl⟩⟩, .inr ⟨rfl, ?_, .inr ⟨.inl (by simp), .inl rfl⟩⟩, .inr ⟨rfl, hal, .inr ⟨.inl (by simp), .inl rfl⟩⟩, .inr ⟨rfl, ?_, .inr ⟨.inl (by simp), .inr ⟨0, _, _, rfl, rfl, .inl rfl, .inl rfl, .inl rfl, .inr ?_, trivial⟩⟩⟩, rfl⟩
                · simp only [rowIn, inL, inR, Bool.true_and, Bool.and_true]; exact inR_rv rfl
                · simp only [rowIn, inL, inR, Bool.true_and, Bool.and_true]; exact inE_no (nodes_tree hfk)
                · exact lend_rv (v := ks.length) rfl (by simp) (fun e he => (hfk e he).len) (nodes_tree hfk)
              generalize (ks ++ [[AV.int .i64 k1, .int .i64 n1, .int .i64 m1, .sl b1' es1]]) = fk at hfk hfl hfn ⊢
              repeat' (first | with_reducible (first | refine v'1 fun _ _ => ?_ | refine v'2 ?_ | (first | refine v'3 ?_ | refine v'4 ?_ | refine v'5 fun _ _ _ _ => ?_ | refine v'6 (fun hg => ?_) (fun hg => ?_) <;> try simp only [hg]) <;> simp only [wS, simprocAttr, ↓heads_rv1, ↓toCells_rv1] | (first | refine v's ?_ | refine v'e ?_ | refine v'r ?_) <;> try simp only [wE, simprocAttr] | refine v'8 ?_ | refine v'9 ?_))
              refine EG.mono (fun i h => eff_rv1 (app := app) (e := [.int .i64 26, .int .i64 w, .int .i64 0, .sl false fk]) (by' := 48) (by kernel_rfl) (by (simp only [wS, simprocAttr]; try exact rfl)) (fun e he => (hn e he).len) (by simp [srcA]) (by omega) h) ?_
              simp only [wS, simprocAttr, ↓heads_rv1, ↓toCells_rv1]
              have e1 := wrap_succ (k := app.length) hlt (by omega)
              repeat' (first | with_reducible (first | refine v'1 fun _ _ => ?_ | refine v'2 ?_ | (first | refine v'3 ?_ | refine v'4 ?_ | refine v'5 fun _ _ _ _ => ?_ | refine v'6 (fun hg => ?_) (fun hg => ?_) <;> try simp only [hg]) <;> simp only [wS, simprocAttr, e1, ↓heads_rv1, ↓toCells_rv1] | (first | refine v's ?_ | refine v'e ?_ | refine v'r ?_) <;> try simp only [wE, simprocAttr] | refine v'8 ?_ | refine v'9 ?_))
              have hna : ∀ e ∈ app ++ [[AV.int .i64 26, .int .i64 w, .int .i64 0, .sl false fk]], NodeV 12 e := (fun e he => by
                  rcases List.mem_append.1 he with he | he
                  · exact hn e he
                  · rw [List.mem_singleton.1 he]; exact hfn)
              refine hK1 _ ⟨(app ++ [[.int .i64 26, .int .i64 w, .int .i64 0, .sl false fk]], b5, c5), by simp <;> omega, hna⟩ (Weak.ref ⟨?_, .inr ⟨Nat.zero_le _, ?_, fun g cs hg => inL_no (hG0 g cs hg), ?_, ?_⟩⟩) (by simp <;> omega)
              · simp only [wS, simprocAttr, List.length_append, List.length_singleton, Nat.add_sub_cancel]; try exact rfl
              · simp only [wS, simprocAttr, List.length_append, List.length_singleton, Nat.add_sub_cancel]; try exact rfl
              · intro z hz
                simp only [List.mem_cons, List.not_mem_nil, or_false] at hz
                rcases hz with rfl | rfl | rfl | rfl | rfl <;> rfl
              · simp only [List.all_cons, List.all_nil, Bool.and_true, Bool.and_eq_true]
                exact ⟨rfl, chR_in _ _ _ _, by simp only [rowIn, inL, inR, Bool.true_and, Bool.and_true]; exact inR_rv rfl, rv_in hna⟩
    · repeat' (first | with_reducible (first | refine v'1 fun _ _ => ?_ | refine v'2 ?_ | (first | refine v'3 ?_ | refine v'4 ?_ | refine v'5 fun _ _ _ _ => ?_ | refine v'6 (fun hg => ?_) (fun hg => ?_) <;> try simp only [hg]) <;> simp only [wS, simprocAttr] | (first | refine v's ?_ | refine v'e ?_ | refine v'r ?_) <;> try simp only [wE, simprocAttr] | refine v'9 ?_))
      refine ContE.go (by assumption) (eg_ref (ref_to [3] (fun r => decide (r < 3)) (l := [(2, .ptr 0 0 0), (3, .ptr 1 0 0), (4, .ptr 2 0 0)]) (h := [.cells 0 [.int .i64 0, .int .i64 0, .int .i64 0, .sl true []], chR L a3 l3, .cells 0 [.int .i64 27, .int .i64 pn, .int .i64 0, .sl false app]]) hG0 (fun r hr => absurd hr (Nat.not_lt_zero r)) ?_ ?_ ?_) ?_)
      · simp only [wS, simprocAttr, FrzF, Frz, and_true, true_or]; try exact trivial
      · rfl
      · simp only [wS, simprocAttr]
        simp only [ToH, and_true]
        refine ⟨.inr ⟨rfl, rfl, .inr ⟨.inl (by simp), .inl rfl⟩⟩, .inr ⟨rfl, chR_in _ _ _ _, .inr ⟨.inl (by simp), .inl rfl⟩⟩, .inr ⟨rfl, ?_, .inr ⟨.inl (by simp), .inr ⟨0, _, _, rfl, rfl, .inl rfl, .inl rfl, .inl rfl, .inr ?_, trivial⟩⟩⟩, rfl⟩
        · simp only [rowIn, inL, inR, Bool.true_and, Bool.and_true]; exact inE_no (nodes_tree hn)
        · exact lend_rv (v := app.length - 1) rfl (by simp) (fun e he => (hn e he).len) (nodes_tree hn)
      repeat' (first | with_reducible (first | refine v'1 fun _ _ => ?_ | refine v'2 ?_ | (first | refine v'3 ?_ | refine v'4 ?_ | refine v'5 fun _ _ _ _ => ?_ | refine v'6 (fun hg => ?_) (fun hg => ?_) <;> try simp only [hg]) <;> simp only [wS, simprocAttr] | (first | refine v's ?_ | refine v'e ?_ | refine v'r ?_) <;> try simp only [wE, simprocAttr] | refine v'8 ?_ | refine v'9 ?_))
      have hv : VN 14 (.agg [.int .i64 27, .int .i64 pn, .int .i64 0, .sl false app]) := ⟨_, rfl, .mk (d := 12) (hd := by decide) _ _ _ _ _ (by omega) hn⟩
      refine eg_retC (v := .agg [.int .i64 27, .int .i64 pn, .int .i64 0, .sl false app]) rfl (by simp only [wS, simprocAttr]; try exact rfl) ?_
      exact EG.of _ (VN.wk hv) rfl
end Go.Proofs.YtblfpppnkdokdaaGreatDoor
