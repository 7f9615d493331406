import Derived.Test.YtijakngaipdncaaDoorC6
import Derived.Test.YtijakngaipdncaaDoorN13
set_option linter.unusedVariables false
set_option linter.unusedSimpArgs false
namespace Go.Proofs.YtijakngaipdncaaDoor
open Go.AM
attribute [local irreducible] AWp rgnS callR callV effR valR guardR stepR nextR
set_option maxRecDepth 100000
theorem accQ {q : Nat} {app : List (List AV)} {m : Nat} (h : app.length = m + 1) : accV [] q 4 app = .osl q m 0 (m + 1) 4 false ∧ ∀ H, accH H [] app = H ++ [.cells m app.flatten] := by
  have hne : app ≠ [] := fun e => by rw [e] at h; cases h
  refine ⟨?_, fun H => ?_⟩
  · rw [accV, if_neg hne, h]; simp
  · rw [accH, if_neg hne, accRow, h]; simp
theorem ref_f0 [Rnd] {r0 r1 r2 : ARow} {w : Int} {n m : Nat} {s : AS} {ks : List (List AV)} (fs : List (Nat × AV)) (hh : s.h = [r0, r1, r2, .cells 0 [.int .i64 26, .int .i64 w, .int .i64 0, .osl 4 m 0 (m + 1) 4 false], .cells m ks.flatten]) (hm : ks.length = m + 1) (hsz : ∀ e ∈ ks, e.length = 4) (ht : inE noRef ks = true) (hl : holdsF fs s.get) :
    Ref G0 n 0 s ⟨mkF fs, [r0, r1, r2, .cells 0 [.int .i64 26, .int .i64 w, .int .i64 0, .sl false ks], .dead]⟩ := by
  refine ref_freeze [4] fs _ (by rw [hh]; rfl) (frzF_same hl) ?_
  have hr : s.row 4 = .cells m ks.flatten := by show s.h.getD 4 .none = _; rw [hh]; rfl
  rw [hh]
  refine ⟨.inr ⟨by simp, .inl rfl⟩, .inr ⟨by simp, .inl rfl⟩, .inr ⟨by simp, .inl rfl⟩, .inr ⟨by simp, .inr ⟨0, _, _, rfl, rfl, .inl rfl, .inl rfl, .inl rfl, .inr ?_, trivial⟩⟩, .inl ⟨by simp, rfl, by simp⟩, trivial⟩
  exact .osl (cs := ks.flatten) (by simp) (by simp [rowCells, hr]) hm hsz (by rw [List.drop_zero, List.take_of_length_le (by rw [flat_sz hsz, hm]; exact Nat.le_refl _)]) ht
theorem ref_f1 [Rnd] {r0 r1 r2 r3 r4 r5 : ARow} {w : Int} {n m : Nat} {s : AS} {ks : List (List AV)} (fs : List (Nat × AV)) (hh : s.h = [r0, r1, r2, r3, r4, r5, .cells 0 [.int .i64 26, .int .i64 w, .int .i64 0, .osl 7 m 0 (m + 1) 4 false], .cells m ks.flatten]) (hm : ks.length = m + 1) (hsz : ∀ e ∈ ks, e.length = 4) (ht : inE noRef ks = true) (hl : holdsF fs s.get) :
    Ref G0 n 0 s ⟨mkF fs, [r0, r1, r2, r3, r4, r5, .cells 0 [.int .i64 26, .int .i64 w, .int .i64 0, .sl false ks], .dead]⟩ := by
  refine ref_freeze [7] fs _ (by rw [hh]; rfl) (frzF_same hl) ?_
  have hr : s.row 7 = .cells m ks.flatten := by show s.h.getD 7 .none = _; rw [hh]; rfl
  rw [hh]
  refine ⟨.inr ⟨by simp, .inl rfl⟩, .inr ⟨by simp, .inl rfl⟩, .inr ⟨by simp, .inl rfl⟩, .inr ⟨by simp, .inl rfl⟩, .inr ⟨by simp, .inl rfl⟩, .inr ⟨by simp, .inl rfl⟩, .inr ⟨by simp, .inr ⟨0, _, _, rfl, rfl, .inl rfl, .inl rfl, .inl rfl, .inr ?_, trivial⟩⟩, .inl ⟨by simp, rfl, by simp⟩, trivial⟩
  exact .osl (cs := ks.flatten) (by simp) (by simp [rowCells, hr]) hm hsz (by rw [List.drop_zero, List.take_of_length_le (by rw [flat_sz hsz, hm]; exact Nat.le_refl _)]) ht
theorem ref_p [Rnd] {r0 r1 : ARow} {pn : Int} {n m : Nat} {s : AS} {app : List (List AV)} (fs : List (Nat × AV)) (hh : s.h = [r0, r1, .cells 0 [.int .i64 27, .int .i64 pn, .int .i64 0, .osl 5 m 0 (m + 1) 4 false], .dead, .dead, .cells m app.flatten]) (hm : app.length = m + 1) (hsz : ∀ e ∈ app, e.length = 4) (ht : inE noRef app = true) (hl : holdsF fs s.get) :
    Ref G0 n 0 s ⟨mkF fs, [r0, r1, .cells 0 [.int .i64 27, .int .i64 pn, .int .i64 0, .sl false app], .dead, .dead, .dead]⟩ := by
  refine ref_freeze [5] fs _ (by rw [hh]; rfl) (frzF_same hl) ?_
  have hr : s.row 5 = .cells m app.flatten := by show s.h.getD 5 .none = _; rw [hh]; rfl
  rw [hh]
  refine ⟨.inr ⟨by simp, .inl rfl⟩, .inr ⟨by simp, .inl rfl⟩, .inr ⟨by simp, .inr ⟨0, _, _, rfl, rfl, .inl rfl, .inl rfl, .inl rfl, .inr ?_, trivial⟩⟩, .inr ⟨by simp, .inl rfl⟩, .inr ⟨by simp, .inl rfl⟩, .inl ⟨by simp, rfl, by simp⟩, trivial⟩
  exact .osl (cs := app.flatten) (by simp) (by simp [rowCells, hr]) hm hsz (by rw [List.drop_zero, List.take_of_length_le (by rw [flat_sz hsz, hm]; exact Nat.le_refl _)]) ht
theorem ref_kills [Rnd] {n k : Nat} {s : AS} (qs : List Nat) (l : List (Nat × AV)) {H H' : List ARow} (hh : s.h = H) (hlt : qs.all (fun q => decide (q < H.length)) = true) (hq : ∀ i, qs.contains i = true → H.getD i .none ≠ .none) (hl : holdsF l s.get) (he : deadH qs 0 H = H') : Ref G0 n k s ⟨mkF l, H'⟩ := by
  subst he hh
  exact ref_freeze qs l _ hlt (frzF_same hl) (frzH_dead 0 s.h fun i hi _ => hq i (by simpa using hi))
set_option maxHeartbeats 8000000 in
theorem sample_ok (L : List Int) (hL : ∀ x ∈ L, Small64 x) : EP Tryd.prog G0 5 [encI L] (VN 14) := by
  refine ep_of_body hG0 Tryd.func5 rfl (by kernel_rfl) (by simp [Tryd.ntmps5]) (by simp [inL, tree_encI]) (fun _ => VN.tree) ?_
  simp only [Tryd.ntmps5, enterF, Nat.reduceAdd]
  obtain ⟨el, hel⟩ : ∃ es, encI L = .sl false es := ⟨_, rfl⟩
  rw [hel]
  repeat' (first | with_reducible (first | refine v'1 fun _ _ => ?_ | refine v'2 ?_ | (first | refine v'3 ?_ | refine v'4 ?_ | refine v'5 fun _ _ _ _ => ?_ | refine v'6 (fun hg => ?_) (fun hg => ?_) <;> try simp only [hg]) <;> simp only [wS, simprocAttr] | (first | refine v's ?_ | refine v'e ?_ | refine v'r ?_) <;> try simp only [wE, simprocAttr] | refine v'8 ?_ | refine v'9 ?_))
  refine eg_qc (num_ok hL 4 (by decide)) 0 0 (by simp only [wS, simprocAttr, chR, hel]; try exact rfl) ?_
  rintro _ a1 l1 ⟨pn, rfl, hp1, hp2⟩ -
  simp only [wS, simprocAttr]
  repeat' (first | with_reducible (first | refine v'1 fun _ _ => ?_ | refine v'2 ?_ | (first | refine v'3 ?_ | refine v'4 ?_ | refine v'5 fun _ _ _ _ => ?_ | refine v'6 (fun hg => ?_) (fun hg => ?_) <;> try simp only [hg]) <;> simp only [wS, simprocAttr] | (first | refine v's ?_ | refine v'e ?_ | refine v'r ?_) <;> try simp only [wE, simprocAttr] | refine v'8 ?_ | refine v'9 ?_))
  refine eg_qc (num_ok hL 3 (by decide)) _ _ (by simp only [wS, simprocAttr, chR]; try exact rfl) ?_
  rintro _ a2 l2 ⟨z, rfl, hz1, hz2⟩ -
  obtain ⟨nn, hnn⟩ : ∃ x : Int, x = 1 + z := ⟨_, rfl⟩
  have ez : IntKind.i64.wrap nn = nn := wrap_small (by omega) (by omega)
  have hn1 : 1 ≤ nn := by omega
  have hn3 : nn ≤ 3 := by omega
  simp only [wS, simprocAttr, ez, ← hnn]
  repeat' (first | with_reducible (first | refine v'1 fun _ _ => ?_ | refine v'2 ?_ | (first | refine v'3 ?_ | refine v'4 ?_ | refine v'5 fun _ _ _ _ => ?_ | refine v'6 (fun hg => ?_) (fun hg => ?_) <;> try simp only [hg]) <;> simp only [wS, simprocAttr, ez, ← hnn] | (first | refine v's ?_ | refine v'e ?_ | refine v'r ?_) <;> try simp only [wE, simprocAttr] | refine v'8 ?_ | refine v'9 ?_))
  refine eg_loop_k (α := {p : List (List AV) × Int × Int // p.1.length ≤ 3 ∧ ∀ e ∈ p.1, NodeV 12 e}) (fun p => [(2, .ptr 0 0 0), (3, .ptr 1 0 0), (4, .ptr 2 0 0), (5, .int .i64 nn), (6, .int .i64 (p.1.1.length : Nat))]) (fun p => if p.1.1 = [] then [.cells 0 [.int .i64 0, .int .i64 0, .int .i64 0, .sl true []], chR L p.1.2.1 p.1.2.2, .cells 0 [.int .i64 27, .int .i64 pn, .int .i64 0, .sl true []]] else [.cells 0 [.int .i64 0, .int .i64 0, .int .i64 0, .sl true []], chR L p.1.2.1 p.1.2.2, .cells 0 [.int .i64 27, .int .i64 pn, .int .i64 0, .osl 5 (p.1.1.length - 1) 0 p.1.1.length 4 false], .dead, .dead, .cells (p.1.1.length - 1) p.1.1.flatten]) (fun p => 3 - p.1.1.length) ⟨([], a2, l2), by simp, by simp⟩ (Weak.ref ⟨?_, .inl ?_⟩) ?_
  · simp only [wS, simprocAttr]; try exact rfl
  · simp only [wS, simprocAttr, if_true]; try exact rfl
  · rintro ⟨⟨app, a3, l3⟩, hl, hn⟩ K1 hK1
    simp only at hl hn
    by_cases happ : app = []
    · subst happ
      simp only [if_true, List.length_nil, Int.natCast_zero]
      repeat' (first | with_reducible (first | refine v'1 fun _ _ => ?_ | refine v'2 ?_ | (first | refine v'3 ?_ | refine v'4 ?_ | refine v'5 fun _ _ _ _ => ?_ | refine v'6 (fun hg => ?_) (fun hg => ?_) <;> try simp only [hg]) <;> simp only [wS, simprocAttr, chR] | (first | refine v's ?_ | refine v'e ?_ | refine v'r ?_) <;> try simp only [wE, simprocAttr] | refine v'8 ?_ | refine v'9 ?_))
      refine eg_split (fun h => ?_) (fun h => ?_)
      · have hlt : 0 < 3 := by simp at h; omega
        repeat' (first | with_reducible (first | refine v'1 fun _ _ => ?_ | refine v'2 ?_ | (first | refine v'3 ?_ | refine v'4 ?_ | refine v'5 fun _ _ _ _ => ?_ | refine v'6 (fun hg => ?_) (fun hg => ?_) <;> try simp only [hg]) <;> simp only [wS, simprocAttr, chR] | (first | refine v's ?_ | refine v'e ?_ | refine v'r ?_) <;> try simp only [wE, simprocAttr] | refine v'8 ?_ | refine v'9 ?_))
        refine eg_qc (num_ok hL 4 (by decide)) _ _ (by simp only [wS, simprocAttr, chR]; try exact rfl) ?_
        rintro _ b1 c1 ⟨w, rfl, hw1, hw2⟩ -
        simp only [wS, simprocAttr]
        repeat' (first | with_reducible (first | refine v'1 fun _ _ => ?_ | refine v'2 ?_ | (first | refine v'3 ?_ | refine v'4 ?_ | refine v'5 fun _ _ _ _ => ?_ | refine v'6 (fun hg => ?_) (fun hg => ?_) <;> try simp only [hg]) <;> simp only [wS, simprocAttr] | (first | refine v's ?_ | refine v'e ?_ | refine v'r ?_) <;> try simp only [wE, simprocAttr] | refine v'8 ?_ | refine v'9 ?_))
        refine eg_loop_k (α := {p : List (List AV) × Int × Int // p.1.length ≤ 3 ∧ ∀ e ∈ p.1, NodeV 11 e}) (fun p => [(2, .ptr 0 0 0), (3, .ptr 1 0 0), (4, .ptr 2 0 0), (5, .int .i64 nn), (6, .int .i64 (0)), (7, .ptr 3 0 0), (8, .int .i64 (p.1.1.length : Nat))]) (fun p => accH [.cells 0 [.int .i64 0, .int .i64 0, .int .i64 0, .sl true []], chR L p.1.2.1 p.1.2.2, .cells 0 [.int .i64 27, .int .i64 pn, .int .i64 0, .sl true []], .cells 0 [.int .i64 26, .int .i64 w, .int .i64 0, accV [] 4 4 p.1.1]] [] p.1.1) (fun p => 3 - p.1.1.length) ⟨([], b1, c1), by simp, by simp⟩ (Weak.ref ⟨?_, .inl ?_⟩) ?_
        · simp only [wS, simprocAttr]; try exact rfl
        · simp only [wS, simprocAttr, accH, if_true, accV_nil]; try exact rfl
        · rintro ⟨⟨ks, b2, c2⟩, hl2, hn2⟩ K3 hK3
          simp only at hl2 hn2
          repeat' (first | with_reducible (first | refine v'1 fun _ _ => ?_ | refine v'2 ?_ | (first | refine v'3 ?_ | refine v'4 ?_ | refine v'5 fun _ _ _ _ => ?_ | refine v'6 (fun hg => ?_) (fun hg => ?_) <;> try simp only [hg]) <;> simp only [wS, simprocAttr, accH_old] | (first | refine v's ?_ | refine v'e ?_ | refine v'r ?_) <;> try simp only [wE, simprocAttr] | refine v'8 ?_ | refine v'9 ?_))
          refine eg_split (fun h => ?_) (fun h => ?_)
          · have hk3 : ks.length < 3 := by simp at h; omega
            refine v'9 ?_
            by_cases hks : ks = []
            · subst hks
              simp only [accH, if_true, accV_nil, List.length_nil, Int.natCast_zero]
              repeat' (first | with_reducible (first | refine v'1 fun _ _ => ?_ | refine v'2 ?_ | (first | refine v'3 ?_ | refine v'4 ?_ | refine v'5 fun _ _ _ _ => ?_ | refine v'6 (fun hg => ?_) (fun hg => ?_) <;> try simp only [hg]) <;> simp only [wS, simprocAttr, chR] | (first | refine v's ?_ | refine v'e ?_ | refine v'r ?_) <;> try simp only [wE, simprocAttr] | refine v'8 ?_ | refine v'9 ?_))
              refine eg_qc (num_ok hL 2 (by decide)) _ _ (by simp only [wS, simprocAttr, chR]; try exact rfl) ?_
              rintro _ b3 c3 ⟨x, rfl, hx1, hx2⟩ -
              simp only [wS, simprocAttr]
              refine EG.mono (fun i h => eff_new (es := []) (sz := 4) (by' := 48) (mm := 1) (new := [.int .i64 x, .int .i64 0, .int .i64 0, .sl true []]) (by kernel_rfl) rfl (by simp) (by simp [srcA]) (by decide) (by simp) h) ?_
              simp only [wS, simprocAttr]
              refine eg_and (by kernel_rfl) ?_
              have e3 := wrap_succ (k := 0) hk3 (by omega)
              repeat' (first | with_reducible (first | refine v'1 fun _ _ => ?_ | refine v'2 ?_ | (first | refine v'3 ?_ | refine v'4 ?_ | refine v'5 fun _ _ _ _ => ?_ | refine v'6 (fun hg => ?_) (fun hg => ?_) <;> try simp only [hg]) <;> simp only [wS, simprocAttr, e3] | (first | refine v's ?_ | refine v'e ?_ | refine v'r ?_) <;> try simp only [wE, simprocAttr] | refine v'8 ?_ | refine v'9 ?_))
              refine hK3 _ ⟨([] ++ [[.int .i64 x, .int .i64 0, .int .i64 0, .sl true []]], b3, c3), by simp <;> omega, (fun e he => by
                  rcases List.mem_append.1 he with he | he
                  · exact hn2 e he
                  · rw [List.mem_singleton.1 he]; exact (leafV _ _ _ _).up (by decide))⟩ (Weak.ref ⟨?_, .inl ?_⟩) (by simp <;> omega)
              · simp only [wS, simprocAttr, List.length_append, List.length_singleton]; try exact rfl
              · simp only [wS, simprocAttr, accH, accV, accRow]; try exact rfl
            · obtain ⟨j, hj⟩ : ∃ j, ks.length = j + 1 := ⟨ks.length - 1, by
                  have : ks.length ≠ 0 := by simpa using hks
                  omega⟩
              obtain ⟨hv, hh⟩ := accQ (q := 4) hj
              simp only [hv, hh, List.cons_append, List.nil_append]
              repeat' (first | with_reducible (first | refine v'1 fun _ _ => ?_ | refine v'2 ?_ | (first | refine v'3 ?_ | refine v'4 ?_ | refine v'5 fun _ _ _ _ => ?_ | refine v'6 (fun hg => ?_) (fun hg => ?_) <;> try simp only [hg]) <;> simp only [wS, simprocAttr, chR] | (first | refine v's ?_ | refine v'e ?_ | refine v'r ?_) <;> try simp only [wE, simprocAttr] | refine v'8 ?_ | refine v'9 ?_))
              refine eg_qc (num_ok hL 2 (by decide)) _ _ (by simp only [wS, simprocAttr, chR]; try exact rfl) ?_
              rintro _ b3 c3 ⟨x, rfl, hx1, hx2⟩ -
              simp only [wS, simprocAttr]
              refine EG.mono (fun i h => eff_own (r := 4) (cs := ks.flatten) (sz := 4) (by' := 48) (mm := 1) (new := [.int .i64 x, .int .i64 0, .int .i64 0, .sl true []]) (by kernel_rfl) rfl (by rw [flat_sz (fun e he => (hn2 e he).len), hj]) (by simp [srcA]) (by omega) h) ?_
              simp only [wS, simprocAttr]
              refine eg_and (by kernel_rfl) ?_
              have e3 := wrap_succ (k := ks.length) hk3 (by omega)
              repeat' (first | with_reducible (first | refine v'1 fun _ _ => ?_ | refine v'2 ?_ | (first | refine v'3 ?_ | refine v'4 ?_ | refine v'5 fun _ _ _ _ => ?_ | refine v'6 (fun hg => ?_) (fun hg => ?_) <;> try simp only [hg]) <;> simp only [wS, simprocAttr, e3] | (first | refine v's ?_ | refine v'e ?_ | refine v'r ?_) <;> try simp only [wE, simprocAttr] | refine v'8 ?_ | refine v'9 ?_))
              have hm2 : (ks ++ [[AV.int .i64 x, .int .i64 0, .int .i64 0, .sl true []]]).length = j + 1 + 1 := by simp [hj]
              obtain ⟨hv2, hh2⟩ := accQ (q := 4) hm2
              refine hK3 _ ⟨(ks ++ [[.int .i64 x, .int .i64 0, .int .i64 0, .sl true []]], b3, c3), by simp <;> omega, (fun e he => by
                  rcases List.mem_append.1 he with he | he
                  · exact hn2 e he
                  · rw [List.mem_singleton.1 he]; exact (leafV _ _ _ _).up (by decide))⟩ (Weak.ref ⟨?_, .inl ?_⟩) (by simp <;> omega)
              · simp only [wS, simprocAttr, List.length_append, List.length_singleton]; try exact rfl
              · simp only [wS, simprocAttr, hv2, hh2, List.flatten_append, hj]; try exact rfl
          · repeat' (first | with_reducible (first | refine v'1 fun _ _ => ?_ | refine v'2 ?_ | (first | refine v'3 ?_ | refine v'4 ?_ | refine v'5 fun _ _ _ _ => ?_ | refine v'6 (fun hg => ?_) (fun hg => ?_) <;> try simp only [hg]) <;> simp only [wS, simprocAttr, accH_old] | (first | refine v's ?_ | refine v'e ?_ | refine v'r ?_) <;> try simp only [wE, simprocAttr] | refine v'8 ?_ | refine v'9 ?_))
            refine eg_qc (num_ok hL 3 (by decide)) b2 c2 (by simp only [wS, simprocAttr, accH_old, chR]; try exact rfl) ?_
            rintro _ b4 c4 ⟨y, rfl, hy1, hy2⟩ -
            simp only [wS, simprocAttr, accH_hset, accH_old]
            repeat' (first | with_reducible (first | refine v'1 fun _ _ => ?_ | refine v'2 ?_ | (first | refine v'3 ?_ | refine v'4 ?_ | refine v'5 fun _ _ _ _ => ?_ | refine v'6 (fun hg => ?_) (fun hg => ?_) <;> try simp only [hg]) <;> simp only [wS, simprocAttr, accH_old] | (first | refine v's ?_ | refine v'e ?_ | refine v'r ?_) <;> try simp only [wE, simprocAttr] | refine v'8 ?_ | refine v'9 ?_))
            refine eg_loop_k (α := {p : List (List AV) × Nat × Int × Int // p.1.length ≤ 3 + p.2.1 ∧ p.2.1 ≤ 2 ∧ ∀ e ∈ p.1, NodeV 11 e}) (fun p => [(2, .ptr 0 0 0), (3, .ptr 1 0 0), (4, .ptr 2 0 0), (5, .int .i64 nn), (6, .int .i64 (0)), (7, .ptr 3 0 0), (9, .int .i64 y), (10, .int .i64 (p.1.2.1 : Nat))]) (fun p => accH [.cells 0 [.int .i64 0, .int .i64 0, .int .i64 0, .sl true []], chR L p.1.2.2.1 p.1.2.2.2, .cells 0 [.int .i64 27, .int .i64 pn, .int .i64 0, .sl true []], .cells 0 [.int .i64 26, .int .i64 w, .int .i64 0, accV [] 4 4 p.1.1]] [] p.1.1) (fun p => 2 - p.1.2.1) ⟨(ks, 0, b4, c4), by simp <;> omega, by simp, hn2⟩ (Weak.ref ⟨?_, .inl ?_⟩) ?_
            · simp only [wS, simprocAttr]; try exact rfl
            · simp only [wS, simprocAttr, accH_hset]; try exact rfl
            · clear hl2 hn2 hK3
              clear h
              rintro ⟨⟨ks, jj, b2, c2⟩, hl2, hj2, hn2⟩ K3 hK3
              simp only at hl2 hj2 hn2
              repeat' (first | with_reducible (first | refine v'1 fun _ _ => ?_ | refine v'2 ?_ | (first | refine v'3 ?_ | refine v'4 ?_ | refine v'5 fun _ _ _ _ => ?_ | refine v'6 (fun hg => ?_) (fun hg => ?_) <;> try simp only [hg]) <;> simp only [wS, simprocAttr, accH_old] | (first | refine v's ?_ | refine v'e ?_ | refine v'r ?_) <;> try simp only [wE, simprocAttr] | refine v'8 ?_ | refine v'9 ?_))
              refine eg_split (fun h => ?_) (fun h => ?_)
              · have hk3 : jj < 2 := by simp at h; omega
                have e3 := wrap_succ (k := jj) hk3 (by omega)
                refine v'9 ?_
                by_cases hks : ks = []
                · subst hks
                  simp only [accH, if_true, accV_nil, List.length_nil, Int.natCast_zero]
                  repeat' (first | with_reducible (first | refine v'1 fun _ _ => ?_ | refine v'2 ?_ | (first | refine v'3 ?_ | refine v'4 ?_ | refine v'5 fun _ _ _ _ => ?_ | refine v'6 (fun hg => ?_) (fun hg => ?_) <;> try simp only [hg]) <;> simp only [wS, simprocAttr, chR] | (first | refine v's ?_ | refine v'e ?_ | refine v'r ?_) <;> try simp only [wE, simprocAttr] | refine v'8 ?_ | refine v'9 ?_))
                  refine eg_qc (kind_ok hL) _ _ (by simp only [wS, simprocAttr, chR]; try exact rfl) ?_
                  rintro _ b5 c5 ⟨c, rfl, hc⟩ -
                  obtain ⟨k1, n1, m1, b1', es1, rfl⟩ := node_ex hc
                  simp only [wS, simprocAttr]
                  refine EG.mono (fun i h => eff_new (es := []) (sz := 4) (by' := 48) (mm := 1) (new := [.int .i64 k1, .int .i64 n1, .int .i64 m1, .sl b1' es1]) (by kernel_rfl) rfl (by simp) (by simp [srcA]) (by decide) (by simp) h) ?_
                  simp only [wS, simprocAttr]
                  refine eg_and (by kernel_rfl) ?_
                  repeat' (first | with_reducible (first | refine v'1 fun _ _ => ?_ | refine v'2 ?_ | (first | refine v'3 ?_ | refine v'4 ?_ | refine v'5 fun _ _ _ _ => ?_ | refine v'6 (fun hg => ?_) (fun hg => ?_) <;> try simp only [hg]) <;> simp only [wS, simprocAttr, e3] | (first | refine v's ?_ | refine v'e ?_ | refine v'r ?_) <;> try simp only [wE, simprocAttr] | refine v'8 ?_ | refine v'9 ?_))
                  refine hK3 _ ⟨([] ++ [[.int .i64 k1, .int .i64 n1, .int .i64 m1, .sl b1' es1]], jj + 1, b5, c5), by simp <;> omega, (by show jj + 1 ≤ 2; omega), (fun e he => by
                      rcases List.mem_append.1 he with he | he
                      · exact hn2 e he
                      · rw [List.mem_singleton.1 he]; exact hc.up (by decide))⟩ (Weak.ref ⟨?_, .inl ?_⟩) (by simp <;> omega)
                  · simp only [wS, simprocAttr, List.length_append, List.length_singleton]; try exact rfl
                  · simp only [wS, simprocAttr, accH, accV, accRow]; try exact rfl
                · obtain ⟨j, hj⟩ : ∃ j, ks.length = j + 1 := ⟨ks.length - 1, by
                      have : ks.length ≠ 0 := by simpa using hks
                      omega⟩
                  obtain ⟨hv, hh⟩ := accQ (q := 4) hj
                  simp only [hv, hh, List.cons_append, List.nil_append]
                  repeat' (first | with_reducible (first | refine v'1 fun _ _ => ?_ | refine v'2 ?_ | (first | refine v'3 ?_ | refine v'4 ?_ | refine v'5 fun _ _ _ _ => ?_ | refine v'6 (fun hg => ?_) (fun hg => ?_) <;> try simp only [hg]) <;> simp only [wS, simprocAttr, chR] | (first | refine v's ?_ | refine v'e ?_ | refine v'r ?_) <;> try simp only [wE, simprocAttr] | refine v'8 ?_ | refine v'9 ?_))
                  refine eg_qc (kind_ok hL) _ _ (by simp only [wS, simprocAttr, chR]; try exact rfl) ?_
                  rintro _ b5 c5 ⟨c, rfl, hc⟩ -
                  obtain ⟨k1, n1, m1, b1', es1, rfl⟩ := node_ex hc
                  simp only [wS, simprocAttr]
                  refine EG.mono (fun i h => eff_own (r := 4) (cs := ks.flatten) (sz := 4) (by' := 48) (mm := 1) (new := [.int .i64 k1, .int .i64 n1, .int .i64 m1, .sl b1' es1]) (by kernel_rfl) rfl (by rw [flat_sz (fun e he => (hn2 e he).len), hj]) (by simp [srcA]) (by omega) h) ?_
                  simp only [wS, simprocAttr]
                  refine eg_and (by kernel_rfl) ?_
                  repeat' (first | with_reducible (first | refine v'1 fun _ _ => ?_ | refine v'2 ?_ | (first | refine v'3 ?_ | refine v'4 ?_ | refine v'5 fun _ _ _ _ => ?_ | refine v'6 (fun hg => ?_) (fun hg => ?_) <;> try simp only [hg]) <;> simp only [wS, simprocAttr, e3] | (first | refine v's ?_ | refine v'e ?_ | refine v'r ?_) <;> try simp only [wE, simprocAttr] | refine v'8 ?_ | refine v'9 ?_))
                  have hm2 : (ks ++ [[AV.int .i64 k1, .int .i64 n1, .int .i64 m1, .sl b1' es1]]).length = j + 1 + 1 := by simp [hj]
                  obtain ⟨hv2, hh2⟩ := accQ (q := 4) hm2
                  refine hK3 _ ⟨(ks ++ [[.int .i64 k1, .int .i64 n1, .int .i64 m1, .sl b1' es1]], jj + 1, b5, c5), by simp <;> omega, (by show jj + 1 ≤ 2; omega), (fun e he => by
                      rcases List.mem_append.1 he with he | he
                      · exact hn2 e he
                      · rw [List.mem_singleton.1 he]; exact hc.up (by decide))⟩ (Weak.ref ⟨?_, .inl ?_⟩) (by simp <;> omega)
                  · simp only [wS, simprocAttr, List.length_append, List.length_singleton]; try exact rfl
                  · simp only [wS, simprocAttr, hv2, hh2, List.flatten_append, hj]; try exact rfl
              · refine v'9 ?_
                by_cases hks : ks = []
                · subst hks
                  simp only [accH, if_true, accV_nil, List.length_nil, Int.natCast_zero]
                  repeat' (first | with_reducible (first | refine v'1 fun _ _ => ?_ | refine v'2 ?_ | (first | refine v'3 ?_ | refine v'4 ?_ | refine v'5 fun _ _ _ _ => ?_ | refine v'6 (fun hg => ?_) (fun hg => ?_) <;> try simp only [hg]) <;> simp only [wS, simprocAttr, chR] | (first | refine v's ?_ | refine v'e ?_ | refine v'r ?_) <;> try simp only [wE, simprocAttr] | refine v'8 ?_ | refine v'9 ?_))
                  refine eg_qc (block_4 hL) _ _ (by simp only [wS, simprocAttr, chR]; try exact rfl) ?_
                  rintro _ b5 c5 ⟨c, rfl, hc⟩ -
                  obtain ⟨k1, n1, m1, b1', es1, rfl⟩ := node_ex hc
                  simp only [wS, simprocAttr]
                  refine EG.mono (fun i h => eff_new (es := []) (sz := 4) (by' := 48) (mm := 1) (new := [.int .i64 k1, .int .i64 n1, .int .i64 m1, .sl b1' es1]) (by kernel_rfl) rfl (by simp) (by simp [srcA]) (by decide) (by simp) h) ?_
                  simp only [wS, simprocAttr]
                  refine eg_and (by kernel_rfl) ?_
                  have hfk : ∀ e ∈ ([] ++ [[AV.int .i64 k1, .int .i64 n1, .int .i64 m1, .sl b1' es1]]), NodeV 11 e := (fun e he => by
                      rcases List.mem_append.1 he with he | he
                      · exact hn2 e he
                      · rw [List.mem_singleton.1 he]; exact hc)
                  have hfl : ([] ++ [[AV.int .i64 k1, .int .i64 n1, .int .i64 m1, .sl b1' es1]]).length = 0 + 1 := by simp
                  have hfn : NodeV 12 [.int .i64 26, .int .i64 w, .int .i64 0, .sl false ([] ++ [[.int .i64 k1, .int .i64 n1, .int .i64 m1, .sl b1' es1]])] := .mk (d := 11) (hd := by decide) _ _ _ _ _ (by rw [hfl]; omega) hfk
                  refine ContE.go (by assumption) (eg_ref (ref_f0 (w := w) (m := 0) (ks := ([] ++ [[.int .i64 k1, .int .i64 n1, .int .i64 m1, .sl b1' es1]])) [(2, .ptr 0 0 0), (3, .ptr 1 0 0), (4, .ptr 2 0 0), (5, .int .i64 nn), (6, .int .i64 (0)), (7, .ptr 3 0 0)] (r0 := .cells 0 [.int .i64 0, .int .i64 0, .int .i64 0, .sl true []]) (r2 := .cells 0 [.int .i64 27, .int .i64 pn, .int .i64 0, .sl true []]) (r1 := chR L b5 c5) ?_ hfl (fun e he => (hfk e he).len) (nodes_tree hfk) ?_) ?_)
                  · simp only [wS, simprocAttr, List.flatten_append, List.flatten_cons, List.flatten_nil, List.nil_append, List.append_nil]; try exact rfl
                  · simp only [wS, simprocAttr]; try exact rfl
                  generalize ([] ++ [[AV.int .i64 k1, .int .i64 n1, .int .i64 m1, .sl b1' es1]]) = fk at hfk hfl hfn ⊢
                  repeat' (first | with_reducible (first | refine v'1 fun _ _ => ?_ | refine v'2 ?_ | (first | refine v'3 ?_ | refine v'4 ?_ | refine v'5 fun _ _ _ _ => ?_ | refine v'6 (fun hg => ?_) (fun hg => ?_) <;> try simp only [hg]) <;> simp only [wS, simprocAttr] | (first | refine v's ?_ | refine v'e ?_ | refine v'r ?_) <;> try simp only [wE, simprocAttr] | refine v'8 ?_ | refine v'9 ?_))
                  refine EG.mono (fun i h => eff_new (es := []) (sz := 4) (by' := 48) (mm := 1) (new := [.int .i64 26, .int .i64 w, .int .i64 0, .sl false fk]) (by kernel_rfl) rfl (by simp) (by simp [srcA]) (by decide) (by simp) h) ?_
                  simp only [wS, simprocAttr]
                  have e1 := wrap_succ (k := 0) hlt (by omega)
                  repeat' (first | with_reducible (first | refine v'1 fun _ _ => ?_ | refine v'2 ?_ | (first | refine v'3 ?_ | refine v'4 ?_ | refine v'5 fun _ _ _ _ => ?_ | refine v'6 (fun hg => ?_) (fun hg => ?_) <;> try simp only [hg]) <;> simp only [wS, simprocAttr, e1] | (first | refine v's ?_ | refine v'e ?_ | refine v'r ?_) <;> try simp only [wE, simprocAttr] | refine v'8 ?_ | refine v'9 ?_))
                  refine hK1 _ ⟨([[.int .i64 26, .int .i64 w, .int .i64 0, .sl false fk]], b5, c5), by simp, fun e he => by rw [List.mem_singleton.1 he]; exact hfn⟩ (ref_kills [3] _ (H := [.cells 0 [.int .i64 0, .int .i64 0, .int .i64 0, .sl true []], chR L b5 c5, .cells 0 [.int .i64 27, .int .i64 pn, .int .i64 0, .osl 5 0 0 1 4 false], .cells 0 [.int .i64 26, .int .i64 w, .int .i64 0, .sl false fk], .dead, .cells 0 [.int .i64 26, .int .i64 w, .int .i64 0, .sl false fk]]) ?_ rfl ?_ ?_ ?_) (by simp)
                  · simp only [wS, simprocAttr]; try exact rfl
                  · intro i hi
                    match i, hi with
                    | 3, _ => simp
                  · simp only [wS, simprocAttr]; try exact rfl
                  · rfl
                · obtain ⟨j, hj⟩ : ∃ j, ks.length = j + 1 := ⟨ks.length - 1, by
                      have : ks.length ≠ 0 := by simpa using hks
                      omega⟩
                  obtain ⟨hv, hh⟩ := accQ (q := 4) hj
                  simp only [hv, hh, List.cons_append, List.nil_append]
                  repeat' (first | with_reducible (first | refine v'1 fun _ _ => ?_ | refine v'2 ?_ | (first | refine v'3 ?_ | refine v'4 ?_ | refine v'5 fun _ _ _ _ => ?_ | refine v'6 (fun hg => ?_) (fun hg => ?_) <;> try simp only [hg]) <;> simp only [wS, simprocAttr, chR] | (first | refine v's ?_ | refine v'e ?_ | refine v'r ?_) <;> try simp only [wE, simprocAttr] | refine v'8 ?_ | refine v'9 ?_))
                  refine eg_qc (block_4 hL) _ _ (by simp only [wS, simprocAttr, chR]; try exact rfl) ?_
                  rintro _ b5 c5 ⟨c, rfl, hc⟩ -
                  obtain ⟨k1, n1, m1, b1', es1, rfl⟩ := node_ex hc
                  simp only [wS, simprocAttr]
                  refine EG.mono (fun i h => eff_own (r := 4) (cs := ks.flatten) (sz := 4) (by' := 48) (mm := 1) (new := [.int .i64 k1, .int .i64 n1, .int .i64 m1, .sl b1' es1]) (by kernel_rfl) rfl (by rw [flat_sz (fun e he => (hn2 e he).len), hj]) (by simp [srcA]) (by omega) h) ?_
                  simp only [wS, simprocAttr]
                  refine eg_and (by kernel_rfl) ?_
                  have hfk : ∀ e ∈ (ks ++ [[AV.int .i64 k1, .int .i64 n1, .int .i64 m1, .sl b1' es1]]), NodeV 11 e := (fun e he => by
                      rcases List.mem_append.1 he with he | he
                      · exact hn2 e he
                      · rw [List.mem_singleton.1 he]; exact hc)
                  have hfl : (ks ++ [[AV.int .i64 k1, .int .i64 n1, .int .i64 m1, .sl b1' es1]]).length = (j + 1) + 1 := by simp [hj]
                  have hfn : NodeV 12 [.int .i64 26, .int .i64 w, .int .i64 0, .sl false (ks ++ [[.int .i64 k1, .int .i64 n1, .int .i64 m1, .sl b1' es1]])] := .mk (d := 11) (hd := by decide) _ _ _ _ _ (by rw [hfl]; omega) hfk
                  refine ContE.go (by assumption) (eg_ref (ref_f0 (w := w) (m := (j + 1)) (ks := (ks ++ [[.int .i64 k1, .int .i64 n1, .int .i64 m1, .sl b1' es1]])) [(2, .ptr 0 0 0), (3, .ptr 1 0 0), (4, .ptr 2 0 0), (5, .int .i64 nn), (6, .int .i64 (0)), (7, .ptr 3 0 0)] (r0 := .cells 0 [.int .i64 0, .int .i64 0, .int .i64 0, .sl true []]) (r2 := .cells 0 [.int .i64 27, .int .i64 pn, .int .i64 0, .sl true []]) (r1 := chR L b5 c5) ?_ hfl (fun e he => (hfk e he).len) (nodes_tree hfk) ?_) ?_)
                  · simp only [wS, simprocAttr, List.flatten_append, List.flatten_cons, List.flatten_nil, List.nil_append, List.append_nil]; try exact rfl
                  · simp only [wS, simprocAttr]; try exact rfl
                  generalize (ks ++ [[AV.int .i64 k1, .int .i64 n1, .int .i64 m1, .sl b1' es1]]) = fk at hfk hfl hfn ⊢
                  repeat' (first | with_reducible (first | refine v'1 fun _ _ => ?_ | refine v'2 ?_ | (first | refine v'3 ?_ | refine v'4 ?_ | refine v'5 fun _ _ _ _ => ?_ | refine v'6 (fun hg => ?_) (fun hg => ?_) <;> try simp only [hg]) <;> simp only [wS, simprocAttr] | (first | refine v's ?_ | refine v'e ?_ | refine v'r ?_) <;> try simp only [wE, simprocAttr] | refine v'8 ?_ | refine v'9 ?_))
                  refine EG.mono (fun i h => eff_new (es := []) (sz := 4) (by' := 48) (mm := 1) (new := [.int .i64 26, .int .i64 w, .int .i64 0, .sl false fk]) (by kernel_rfl) rfl (by simp) (by simp [srcA]) (by decide) (by simp) h) ?_
                  simp only [wS, simprocAttr]
                  have e1 := wrap_succ (k := 0) hlt (by omega)
                  repeat' (first | with_reducible (first | refine v'1 fun _ _ => ?_ | refine v'2 ?_ | (first | refine v'3 ?_ | refine v'4 ?_ | refine v'5 fun _ _ _ _ => ?_ | refine v'6 (fun hg => ?_) (fun hg => ?_) <;> try simp only [hg]) <;> simp only [wS, simprocAttr, e1] | (first | refine v's ?_ | refine v'e ?_ | refine v'r ?_) <;> try simp only [wE, simprocAttr] | refine v'8 ?_ | refine v'9 ?_))
                  refine hK1 _ ⟨([[.int .i64 26, .int .i64 w, .int .i64 0, .sl false fk]], b5, c5), by simp, fun e he => by rw [List.mem_singleton.1 he]; exact hfn⟩ (ref_kills [3] _ (H := [.cells 0 [.int .i64 0, .int .i64 0, .int .i64 0, .sl true []], chR L b5 c5, .cells 0 [.int .i64 27, .int .i64 pn, .int .i64 0, .osl 5 0 0 1 4 false], .cells 0 [.int .i64 26, .int .i64 w, .int .i64 0, .sl false fk], .dead, .cells 0 [.int .i64 26, .int .i64 w, .int .i64 0, .sl false fk]]) ?_ rfl ?_ ?_ ?_) (by simp)
                  · simp only [wS, simprocAttr]; try exact rfl
                  · intro i hi
                    match i, hi with
                    | 3, _ => simp
                  · simp only [wS, simprocAttr]; try exact rfl
                  · rfl
      · simp at h; omega
    · obtain ⟨m, hm⟩ : ∃ m, app.length = m + 1 := ⟨app.length - 1, by
        have : app.length ≠ 0 := by simpa using happ
        omega⟩
      simp only [if_neg happ, hm, Nat.add_sub_cancel]
      repeat' (first | with_reducible (first | refine v'1 fun _ _ => ?_ | refine v'2 ?_ | (first | refine v'3 ?_ | refine v'4 ?_ | refine v'5 fun _ _ _ _ => ?_ | refine v'6 (fun hg => ?_) (fun hg => ?_) <;> try simp only [hg]) <;> simp only [wS, simprocAttr, chR] | (first | refine v's ?_ | refine v'e ?_ | refine v'r ?_) <;> try simp only [wE, simprocAttr] | refine v'8 ?_ | refine v'9 ?_))
      refine eg_split (fun h => ?_) (fun h => ?_)
      · have hlt : (m + 1) < 3 := by simp at h; omega
        repeat' (first | with_reducible (first | refine v'1 fun _ _ => ?_ | refine v'2 ?_ | (first | refine v'3 ?_ | refine v'4 ?_ | refine v'5 fun _ _ _ _ => ?_ | refine v'6 (fun hg => ?_) (fun hg => ?_) <;> try simp only [hg]) <;> simp only [wS, simprocAttr, chR] | (first | refine v's ?_ | refine v'e ?_ | refine v'r ?_) <;> try simp only [wE, simprocAttr] | refine v'8 ?_ | refine v'9 ?_))
        refine eg_qc (num_ok hL 4 (by decide)) _ _ (by simp only [wS, simprocAttr, chR]; try exact rfl) ?_
        rintro _ b1 c1 ⟨w, rfl, hw1, hw2⟩ -
        simp only [wS, simprocAttr]
        repeat' (first | with_reducible (first | refine v'1 fun _ _ => ?_ | refine v'2 ?_ | (first | refine v'3 ?_ | refine v'4 ?_ | refine v'5 fun _ _ _ _ => ?_ | refine v'6 (fun hg => ?_) (fun hg => ?_) <;> try simp only [hg]) <;> simp only [wS, simprocAttr] | (first | refine v's ?_ | refine v'e ?_ | refine v'r ?_) <;> try simp only [wE, simprocAttr] | refine v'8 ?_ | refine v'9 ?_))
        refine eg_loop_k (α := {p : List (List AV) × Int × Int // p.1.length ≤ 3 ∧ ∀ e ∈ p.1, NodeV 11 e}) (fun p => [(2, .ptr 0 0 0), (3, .ptr 1 0 0), (4, .ptr 2 0 0), (5, .int .i64 nn), (6, .int .i64 ((m + 1 : Nat))), (7, .ptr 6 0 0), (8, .int .i64 (p.1.1.length : Nat))]) (fun p => accH [.cells 0 [.int .i64 0, .int .i64 0, .int .i64 0, .sl true []], chR L p.1.2.1 p.1.2.2, .cells 0 [.int .i64 27, .int .i64 pn, .int .i64 0, .osl 5 m 0 (m + 1) 4 false], .dead, .dead, .cells m app.flatten, .cells 0 [.int .i64 26, .int .i64 w, .int .i64 0, accV [] 7 4 p.1.1]] [] p.1.1) (fun p => 3 - p.1.1.length) ⟨([], b1, c1), by simp, by simp⟩ (Weak.ref ⟨?_, .inl ?_⟩) ?_
        · simp only [wS, simprocAttr]; try exact rfl
        · simp only [wS, simprocAttr, accH, if_true, accV_nil]; try exact rfl
        · rintro ⟨⟨ks, b2, c2⟩, hl2, hn2⟩ K3 hK3
          simp only at hl2 hn2
          repeat' (first | with_reducible (first | refine v'1 fun _ _ => ?_ | refine v'2 ?_ | (first | refine v'3 ?_ | refine v'4 ?_ | refine v'5 fun _ _ _ _ => ?_ | refine v'6 (fun hg => ?_) (fun hg => ?_) <;> try simp only [hg]) <;> simp only [wS, simprocAttr, accH_old] | (first | refine v's ?_ | refine v'e ?_ | refine v'r ?_) <;> try simp only [wE, simprocAttr] | refine v'8 ?_ | refine v'9 ?_))
          refine eg_split (fun h => ?_) (fun h => ?_)
          · have hk3 : ks.length < 3 := by simp at h; omega
            refine v'9 ?_
            by_cases hks : ks = []
            · subst hks
              simp only [accH, if_true, accV_nil, List.length_nil, Int.natCast_zero]
              repeat' (first | with_reducible (first | refine v'1 fun _ _ => ?_ | refine v'2 ?_ | (first | refine v'3 ?_ | refine v'4 ?_ | refine v'5 fun _ _ _ _ => ?_ | refine v'6 (fun hg => ?_) (fun hg => ?_) <;> try simp only [hg]) <;> simp only [wS, simprocAttr, chR] | (first | refine v's ?_ | refine v'e ?_ | refine v'r ?_) <;> try simp only [wE, simprocAttr] | refine v'8 ?_ | refine v'9 ?_))
              refine eg_qc (num_ok hL 2 (by decide)) _ _ (by simp only [wS, simprocAttr, chR]; try exact rfl) ?_
              rintro _ b3 c3 ⟨x, rfl, hx1, hx2⟩ -
              simp only [wS, simprocAttr]
              refine EG.mono (fun i h => eff_new (es := []) (sz := 4) (by' := 48) (mm := 1) (new := [.int .i64 x, .int .i64 0, .int .i64 0, .sl true []]) (by kernel_rfl) rfl (by simp) (by simp [srcA]) (by decide) (by simp) h) ?_
              simp only [wS, simprocAttr]
              refine eg_and (by kernel_rfl) ?_
              have e3 := wrap_succ (k := 0) hk3 (by omega)
              repeat' (first | with_reducible (first | refine v'1 fun _ _ => ?_ | refine v'2 ?_ | (first | refine v'3 ?_ | refine v'4 ?_ | refine v'5 fun _ _ _ _ => ?_ | refine v'6 (fun hg => ?_) (fun hg => ?_) <;> try simp only [hg]) <;> simp only [wS, simprocAttr, e3] | (first | refine v's ?_ | refine v'e ?_ | refine v'r ?_) <;> try simp only [wE, simprocAttr] | refine v'8 ?_ | refine v'9 ?_))
              refine hK3 _ ⟨([] ++ [[.int .i64 x, .int .i64 0, .int .i64 0, .sl true []]], b3, c3), by simp <;> omega, (fun e he => by
                  rcases List.mem_append.1 he with he | he
                  · exact hn2 e he
                  · rw [List.mem_singleton.1 he]; exact (leafV _ _ _ _).up (by decide))⟩ (Weak.ref ⟨?_, .inl ?_⟩) (by simp <;> omega)
              · simp only [wS, simprocAttr, List.length_append, List.length_singleton]; try exact rfl
              · simp only [wS, simprocAttr, accH, accV, accRow]; try exact rfl
            · obtain ⟨j, hj⟩ : ∃ j, ks.length = j + 1 := ⟨ks.length - 1, by
                  have : ks.length ≠ 0 := by simpa using hks
                  omega⟩
              obtain ⟨hv, hh⟩ := accQ (q := 7) hj
              simp only [hv, hh, List.cons_append, List.nil_append]
              repeat' (first | with_reducible (first | refine v'1 fun _ _ => ?_ | refine v'2 ?_ | (first | refine v'3 ?_ | refine v'4 ?_ | refine v'5 fun _ _ _ _ => ?_ | refine v'6 (fun hg => ?_) (fun hg => ?_) <;> try simp only [hg]) <;> simp only [wS, simprocAttr, chR] | (first | refine v's ?_ | refine v'e ?_ | refine v'r ?_) <;> try simp only [wE, simprocAttr] | refine v'8 ?_ | refine v'9 ?_))
              refine eg_qc (num_ok hL 2 (by decide)) _ _ (by simp only [wS, simprocAttr, chR]; try exact rfl) ?_
              rintro _ b3 c3 ⟨x, rfl, hx1, hx2⟩ -
              simp only [wS, simprocAttr]
              refine EG.mono (fun i h => eff_own (r := 7) (cs := ks.flatten) (sz := 4) (by' := 48) (mm := 1) (new := [.int .i64 x, .int .i64 0, .int .i64 0, .sl true []]) (by kernel_rfl) rfl (by rw [flat_sz (fun e he => (hn2 e he).len), hj]) (by simp [srcA]) (by omega) h) ?_
              simp only [wS, simprocAttr]
              refine eg_and (by kernel_rfl) ?_
              have e3 := wrap_succ (k := ks.length) hk3 (by omega)
              repeat' (first | with_reducible (first | refine v'1 fun _ _ => ?_ | refine v'2 ?_ | (first | refine v'3 ?_ | refine v'4 ?_ | refine v'5 fun _ _ _ _ => ?_ | refine v'6 (fun hg => ?_) (fun hg => ?_) <;> try simp only [hg]) <;> simp only [wS, simprocAttr, e3] | (first | refine v's ?_ | refine v'e ?_ | refine v'r ?_) <;> try simp only [wE, simprocAttr] | refine v'8 ?_ | refine v'9 ?_))
              have hm2 : (ks ++ [[AV.int .i64 x, .int .i64 0, .int .i64 0, .sl true []]]).length = j + 1 + 1 := by simp [hj]
              obtain ⟨hv2, hh2⟩ := accQ (q := 7) hm2
              refine hK3 _ ⟨(ks ++ [[.int .i64 x, .int .i64 0, .int .i64 0, .sl true []]], b3, c3), by simp <;> omega, (fun e he => by
                  rcases List.mem_append.1 he with he | he
                  · exact hn2 e he
                  · rw [List.mem_singleton.1 he]; exact (leafV _ _ _ _).up (by decide))⟩ (Weak.ref ⟨?_, .inl ?_⟩) (by simp <;> omega)
              · simp only [wS, simprocAttr, List.length_append, List.length_singleton]; try exact rfl
              · simp only [wS, simprocAttr, hv2, hh2, List.flatten_append, hj]; try exact rfl
          · repeat' (first | with_reducible (first | refine v'1 fun _ _ => ?_ | refine v'2 ?_ | (first | refine v'3 ?_ | refine v'4 ?_ | refine v'5 fun _ _ _ _ => ?_ | refine v'6 (fun hg => ?_) (fun hg => ?_) <;> try simp only [hg]) <;> simp only [wS, simprocAttr, accH_old] | (first | refine v's ?_ | refine v'e ?_ | refine v'r ?_) <;> try simp only [wE, simprocAttr] | refine v'8 ?_ | refine v'9 ?_))
            refine eg_qc (num_ok hL 3 (by decide)) b2 c2 (by simp only [wS, simprocAttr, accH_old, chR]; try exact rfl) ?_
            rintro _ b4 c4 ⟨y, rfl, hy1, hy2⟩ -
            simp only [wS, simprocAttr, accH_hset, accH_old]
            repeat' (first | with_reducible (first | refine v'1 fun _ _ => ?_ | refine v'2 ?_ | (first | refine v'3 ?_ | refine v'4 ?_ | refine v'5 fun _ _ _ _ => ?_ | refine v'6 (fun hg => ?_) (fun hg => ?_) <;> try simp only [hg]) <;> simp only [wS, simprocAttr, accH_old] | (first | refine v's ?_ | refine v'e ?_ | refine v'r ?_) <;> try simp only [wE, simprocAttr] | refine v'8 ?_ | refine v'9 ?_))
            refine eg_loop_k (α := {p : List (List AV) × Nat × Int × Int // p.1.length ≤ 3 + p.2.1 ∧ p.2.1 ≤ 2 ∧ ∀ e ∈ p.1, NodeV 11 e}) (fun p => [(2, .ptr 0 0 0), (3, .ptr 1 0 0), (4, .ptr 2 0 0), (5, .int .i64 nn), (6, .int .i64 ((m + 1 : Nat))), (7, .ptr 6 0 0), (9, .int .i64 y), (10, .int .i64 (p.1.2.1 : Nat))]) (fun p => accH [.cells 0 [.int .i64 0, .int .i64 0, .int .i64 0, .sl true []], chR L p.1.2.2.1 p.1.2.2.2, .cells 0 [.int .i64 27, .int .i64 pn, .int .i64 0, .osl 5 m 0 (m + 1) 4 false], .dead, .dead, .cells m app.flatten, .cells 0 [.int .i64 26, .int .i64 w, .int .i64 0, accV [] 7 4 p.1.1]] [] p.1.1) (fun p => 2 - p.1.2.1) ⟨(ks, 0, b4, c4), by simp <;> omega, by simp, hn2⟩ (Weak.ref ⟨?_, .inl ?_⟩) ?_
            · simp only [wS, simprocAttr]; try exact rfl
            · simp only [wS, simprocAttr, accH_hset]; try exact rfl
            · clear hl2 hn2 hK3
              clear h
              rintro ⟨⟨ks, jj, b2, c2⟩, hl2, hj2, hn2⟩ K3 hK3
              simp only at hl2 hj2 hn2
              repeat' (first | with_reducible (first | refine v'1 fun _ _ => ?_ | refine v'2 ?_ | (first | refine v'3 ?_ | refine v'4 ?_ | refine v'5 fun _ _ _ _ => ?_ | refine v'6 (fun hg => ?_) (fun hg => ?_) <;> try simp only [hg]) <;> simp only [wS, simprocAttr, accH_old] | (first | refine v's ?_ | refine v'e ?_ | refine v'r ?_) <;> try simp only [wE, simprocAttr] | refine v'8 ?_ | refine v'9 ?_))
              refine eg_split (fun h => ?_) (fun h => ?_)
              · have hk3 : jj < 2 := by simp at h; omega
                have e3 := wrap_succ (k := jj) hk3 (by omega)
                refine v'9 ?_
                by_cases hks : ks = []
                · subst hks
                  simp only [accH, if_true, accV_nil, List.length_nil, Int.natCast_zero]
                  repeat' (first | with_reducible (first | refine v'1 fun _ _ => ?_ | refine v'2 ?_ | (first | refine v'3 ?_ | refine v'4 ?_ | refine v'5 fun _ _ _ _ => ?_ | refine v'6 (fun hg => ?_) (fun hg => ?_) <;> try simp only [hg]) <;> simp only [wS, simprocAttr, chR] | (first | refine v's ?_ | refine v'e ?_ | refine v'r ?_) <;> try simp only [wE, simprocAttr] | refine v'8 ?_ | refine v'9 ?_))
                  refine eg_qc (kind_ok hL) _ _ (by simp only [wS, simprocAttr, chR]; try exact rfl) ?_
                  rintro _ b5 c5 ⟨c, rfl, hc⟩ -
                  obtain ⟨k1, n1, m1, b1', es1, rfl⟩ := node_ex hc
                  simp only [wS, simprocAttr]
                  refine EG.mono (fun i h => eff_new (es := []) (sz := 4) (by' := 48) (mm := 1) (new := [.int .i64 k1, .int .i64 n1, .int .i64 m1, .sl b1' es1]) (by kernel_rfl) rfl (by simp) (by simp [srcA]) (by decide) (by simp) h) ?_
                  simp only [wS, simprocAttr]
                  refine eg_and (by kernel_rfl) ?_
                  repeat' (first | with_reducible (first | refine v'1 fun _ _ => ?_ | refine v'2 ?_ | (first | refine v'3 ?_ | refine v'4 ?_ | refine v'5 fun _ _ _ _ => ?_ | refine v'6 (fun hg => ?_) (fun hg => ?_) <;> try simp only [hg]) <;> simp only [wS, simprocAttr, e3] | (first | refine v's ?_ | refine v'e ?_ | refine v'r ?_) <;> try simp only [wE, simprocAttr] | refine v'8 ?_ | refine v'9 ?_))
                  refine hK3 _ ⟨([] ++ [[.int .i64 k1, .int .i64 n1, .int .i64 m1, .sl b1' es1]], jj + 1, b5, c5), by simp <;> omega, (by show jj + 1 ≤ 2; omega), (fun e he => by
                      rcases List.mem_append.1 he with he | he
                      · exact hn2 e he
                      · rw [List.mem_singleton.1 he]; exact hc.up (by decide))⟩ (Weak.ref ⟨?_, .inl ?_⟩) (by simp <;> omega)
                  · simp only [wS, simprocAttr, List.length_append, List.length_singleton]; try exact rfl
                  · simp only [wS, simprocAttr, accH, accV, accRow]; try exact rfl
                · obtain ⟨j, hj⟩ : ∃ j, ks.length = j + 1 := ⟨ks.length - 1, by
                      have : ks.length ≠ 0 := by simpa using hks
                      omega⟩
                  obtain ⟨hv, hh⟩ := accQ (q := 7) hj
                  simp only [hv, hh, List.cons_append, List.nil_append]
                  repeat' (first | with_reducible (first | refine v'1 fun _ _ => ?_ | refine v'2 ?_ | (first | refine v'3 ?_ | refine v'4 ?_ | refine v'5 fun _ _ _ _ => ?_ | refine v'6 (fun hg => ?_) (fun hg => ?_) <;> try simp only [hg]) <;> simp only [wS, simprocAttr, chR] | (first | refine v's ?_ | refine v'e ?_ | refine v'r ?_) <;> try simp only [wE, simprocAttr] | refine v'8 ?_ | refine v'9 ?_))
                  refine eg_qc (kind_ok hL) _ _ (by simp only [wS, simprocAttr, chR]; try exact rfl) ?_
                  rintro _ b5 c5 ⟨c, rfl, hc⟩ -
                  obtain ⟨k1, n1, m1, b1', es1, rfl⟩ := node_ex hc
                  simp only [wS, simprocAttr]
                  refine EG.mono (fun i h => eff_own (r := 7) (cs := ks.flatten) (sz := 4) (by' := 48) (mm := 1) (new := [.int .i64 k1, .int .i64 n1, .int .i64 m1, .sl b1' es1]) (by kernel_rfl) rfl (by rw [flat_sz (fun e he => (hn2 e he).len), hj]) (by simp [srcA]) (by omega) h) ?_
                  simp only [wS, simprocAttr]
                  refine eg_and (by kernel_rfl) ?_
                  repeat' (first | with_reducible (first | refine v'1 fun _ _ => ?_ | refine v'2 ?_ | (first | refine v'3 ?_ | refine v'4 ?_ | refine v'5 fun _ _ _ _ => ?_ | refine v'6 (fun hg => ?_) (fun hg => ?_) <;> try simp only [hg]) <;> simp only [wS, simprocAttr, e3] | (first | refine v's ?_ | refine v'e ?_ | refine v'r ?_) <;> try simp only [wE, simprocAttr] | refine v'8 ?_ | refine v'9 ?_))
                  have hm2 : (ks ++ [[AV.int .i64 k1, .int .i64 n1, .int .i64 m1, .sl b1' es1]]).length = j + 1 + 1 := by simp [hj]
                  obtain ⟨hv2, hh2⟩ := accQ (q := 7) hm2
                  refine hK3 _ ⟨(ks ++ [[.int .i64 k1, .int .i64 n1, .int .i64 m1, .sl b1' es1]], jj + 1, b5, c5), by simp <;> omega, (by show jj + 1 ≤ 2; omega), (fun e he => by
                      rcases List.mem_append.1 he with he | he
                      · exact hn2 e he
                      · rw [List.mem_singleton.1 he]; exact hc.up (by decide))⟩ (Weak.ref ⟨?_, .inl ?_⟩) (by simp <;> omega)
                  · simp only [wS, simprocAttr, List.length_append, List.length_singleton]; try exact rfl
                  · simp only [wS, simprocAttr, hv2, hh2, List.flatten_append, hj]; try exact rfl
              · refine v'9 ?_
                by_cases hks : ks = []
                · subst hks
                  simp only [accH, if_true, accV_nil, List.length_nil, Int.natCast_zero]
                  repeat' (first | with_reducible (first | refine v'1 fun _ _ => ?_ | refine v'2 ?_ | (first | refine v'3 ?_ | refine v'4 ?_ | refine v'5 fun _ _ _ _ => ?_ | refine v'6 (fun hg => ?_) (fun hg => ?_) <;> try simp only [hg]) <;> simp only [wS, simprocAttr, chR] | (first | refine v's ?_ | refine v'e ?_ | refine v'r ?_) <;> try simp only [wE, simprocAttr] | refine v'8 ?_ | refine v'9 ?_))
                  refine eg_qc (block_4 hL) _ _ (by simp only [wS, simprocAttr, chR]; try exact rfl) ?_
                  rintro _ b5 c5 ⟨c, rfl, hc⟩ -
                  obtain ⟨k1, n1, m1, b1', es1, rfl⟩ := node_ex hc
                  simp only [wS, simprocAttr]
                  refine EG.mono (fun i h => eff_new (es := []) (sz := 4) (by' := 48) (mm := 1) (new := [.int .i64 k1, .int .i64 n1, .int .i64 m1, .sl b1' es1]) (by kernel_rfl) rfl (by simp) (by simp [srcA]) (by decide) (by simp) h) ?_
                  simp only [wS, simprocAttr]
                  refine eg_and (by kernel_rfl) ?_
                  have hfk : ∀ e ∈ ([] ++ [[AV.int .i64 k1, .int .i64 n1, .int .i64 m1, .sl b1' es1]]), NodeV 11 e := (fun e he => by
                      rcases List.mem_append.1 he with he | he
                      · exact hn2 e he
                      · rw [List.mem_singleton.1 he]; exact hc)
                  have hfl : ([] ++ [[AV.int .i64 k1, .int .i64 n1, .int .i64 m1, .sl b1' es1]]).length = 0 + 1 := by simp
                  have hfn : NodeV 12 [.int .i64 26, .int .i64 w, .int .i64 0, .sl false ([] ++ [[.int .i64 k1, .int .i64 n1, .int .i64 m1, .sl b1' es1]])] := .mk (d := 11) (hd := by decide) _ _ _ _ _ (by rw [hfl]; omega) hfk
                  refine ContE.go (by assumption) (eg_ref (ref_f1 (w := w) (m := 0) (ks := ([] ++ [[.int .i64 k1, .int .i64 n1, .int .i64 m1, .sl b1' es1]])) [(2, .ptr 0 0 0), (3, .ptr 1 0 0), (4, .ptr 2 0 0), (5, .int .i64 nn), (6, .int .i64 ((m + 1 : Nat))), (7, .ptr 6 0 0)] (r0 := .cells 0 [.int .i64 0, .int .i64 0, .int .i64 0, .sl true []]) (r2 := .cells 0 [.int .i64 27, .int .i64 pn, .int .i64 0, .osl 5 m 0 (m + 1) 4 false]) (r3 := .dead) (r4 := .dead) (r5 := .cells m app.flatten) (r1 := chR L b5 c5) ?_ hfl (fun e he => (hfk e he).len) (nodes_tree hfk) ?_) ?_)
                  · simp only [wS, simprocAttr, List.flatten_append, List.flatten_cons, List.flatten_nil, List.nil_append, List.append_nil]; try exact rfl
                  · simp only [wS, simprocAttr]; try exact rfl
                  generalize ([] ++ [[AV.int .i64 k1, .int .i64 n1, .int .i64 m1, .sl b1' es1]]) = fk at hfk hfl hfn ⊢
                  repeat' (first | with_reducible (first | refine v'1 fun _ _ => ?_ | refine v'2 ?_ | (first | refine v'3 ?_ | refine v'4 ?_ | refine v'5 fun _ _ _ _ => ?_ | refine v'6 (fun hg => ?_) (fun hg => ?_) <;> try simp only [hg]) <;> simp only [wS, simprocAttr] | (first | refine v's ?_ | refine v'e ?_ | refine v'r ?_) <;> try simp only [wE, simprocAttr] | refine v'8 ?_ | refine v'9 ?_))
                  refine EG.mono (fun i h => eff_own (r := 5) (cs := app.flatten) (sz := 4) (by' := 48) (mm := 1) (new := [.int .i64 26, .int .i64 w, .int .i64 0, .sl false fk]) (by kernel_rfl) rfl (by rw [flat_sz (fun e he => (hn e he).len), hm]) (by simp [srcA]) (by omega) h) ?_
                  simp only [wS, simprocAttr]
                  have e1 := wrap_succ (k := (m + 1)) hlt (by omega)
                  repeat' (first | with_reducible (first | refine v'1 fun _ _ => ?_ | refine v'2 ?_ | (first | refine v'3 ?_ | refine v'4 ?_ | refine v'5 fun _ _ _ _ => ?_ | refine v'6 (fun hg => ?_) (fun hg => ?_) <;> try simp only [hg]) <;> simp only [wS, simprocAttr, e1] | (first | refine v's ?_ | refine v'e ?_ | refine v'r ?_) <;> try simp only [wE, simprocAttr] | refine v'8 ?_ | refine v'9 ?_))
                  have hm3 : (app ++ [[AV.int .i64 26, .int .i64 w, .int .i64 0, .sl false fk]]).length = m + 1 + 1 := by simp [hm]
                  have hne3 : app ++ [[AV.int .i64 26, .int .i64 w, .int .i64 0, .sl false fk]] ≠ [] := by simp
                  refine hK1 _ ⟨(app ++ [[.int .i64 26, .int .i64 w, .int .i64 0, .sl false fk]], b5, c5), by rw [hm3]; omega, fun e he => by
                      rcases List.mem_append.1 he with he | he
                      · exact hn e he
                      · rw [List.mem_singleton.1 he]; exact hfn⟩ (Weak.ref ⟨?_, .inr ⟨Nat.zero_le _, ?_, ?_, ?_, ?_⟩⟩) (by simp only [hm3]; omega)
                  · simp only [wS, simprocAttr, hm3]; try exact rfl
                  · simp only [wS, simprocAttr, if_neg hne3, hm3, List.flatten_append]; try exact rfl
                  · exact fun g cs hg => inL_mono (p := noRef) (fun r hr => by cases hr) (hG0 g cs hg)
                  · simp only [if_neg hne3]
                    intro z hz
                    simp only [List.mem_cons, List.not_mem_nil, or_false] at hz
                    rcases hz with rfl | rfl | rfl | rfl | rfl <;> rfl
                  · simp only [if_neg hne3, List.all_cons, List.all_nil, Bool.and_true, Bool.and_eq_true]
                    exact ⟨rfl, chR_in _ _ _ _, rfl, rfl, rfl, inL_flat (inE_mono (p := noRef) (fun r hr => by cases hr) (nodes_tree (D := 12) fun e he => by
                      rcases List.mem_append.1 he with he | he
                      · exact hn e he
                      · rw [List.mem_singleton.1 he]; exact hfn))⟩
                · obtain ⟨j, hj⟩ : ∃ j, ks.length = j + 1 := ⟨ks.length - 1, by
                      have : ks.length ≠ 0 := by simpa using hks
                      omega⟩
                  obtain ⟨hv, hh⟩ := accQ (q := 7) hj
                  simp only [hv, hh, List.cons_append, List.nil_append]
                  repeat' (first | with_reducible (first | refine v'1 fun _ _ => ?_ | refine v'2 ?_ | (first | refine v'3 ?_ | refine v'4 ?_ | refine v'5 fun _ _ _ _ => ?_ | refine v'6 (fun hg => ?_) (fun hg => ?_) <;> try simp only [hg]) <;> simp only [wS, simprocAttr, chR] | (first | refine v's ?_ | refine v'e ?_ | refine v'r ?_) <;> try simp only [wE, simprocAttr] | refine v'8 ?_ | refine v'9 ?_))
                  refine eg_qc (block_4 hL) _ _ (by simp only [wS, simprocAttr, chR]; try exact rfl) ?_
                  rintro _ b5 c5 ⟨c, rfl, hc⟩ -
                  obtain ⟨k1, n1, m1, b1', es1, rfl⟩ := node_ex hc
                  simp only [wS, simprocAttr]
                  refine EG.mono (fun i h => eff_own (r := 7) (cs := ks.flatten) (sz := 4) (by' := 48) (mm := 1) (new := [.int .i64 k1, .int .i64 n1, .int .i64 m1, .sl b1' es1]) (by kernel_rfl) rfl (by rw [flat_sz (fun e he => (hn2 e he).len), hj]) (by simp [srcA]) (by omega) h) ?_
                  simp only [wS, simprocAttr]
                  refine eg_and (by kernel_rfl) ?_
                  have hfk : ∀ e ∈ (ks ++ [[AV.int .i64 k1, .int .i64 n1, .int .i64 m1, .sl b1' es1]]), NodeV 11 e := (fun e he => by
                      rcases List.mem_append.1 he with he | he
                      · exact hn2 e he
                      · rw [List.mem_singleton.1 he]; exact hc)
                  have hfl : (ks ++ [[AV.int .i64 k1, .int .i64 n1, .int .i64 m1, .sl b1' es1]]).length = (j + 1) + 1 := by simp [hj]
                  have hfn : NodeV 12 [.int .i64 26, .int .i64 w, .int .i64 0, .sl false (ks ++ [[.int .i64 k1, .int .i64 n1, .int .i64 m1, .sl b1' es1]])] := .mk (d := 11) (hd := by decide) _ _ _ _ _ (by rw [hfl]; omega) hfk
                  refine ContE.go (by assumption) (eg_ref (ref_f1 (w := w) (m := (j + 1)) (ks := (ks ++ [[.int .i64 k1, .int .i64 n1, .int .i64 m1, .sl b1' es1]])) [(2, .ptr 0 0 0), (3, .ptr 1 0 0), (4, .ptr 2 0 0), (5, .int .i64 nn), (6, .int .i64 ((m + 1 : Nat))), (7, .ptr 6 0 0)] (r0 := .cells 0 [.int .i64 0, .int .i64 0, .int .i64 0, .sl true []]) (r2 := .cells 0 [.int .i64 27, .int .i64 pn, .int .i64 0, .osl 5 m 0 (m + 1) 4 false]) (r3 := .dead) (r4 := .dead) (r5 := .cells m app.flatten) (r1 := chR L b5 c5) ?_ hfl (fun e he => (hfk e he).len) (nodes_tree hfk) ?_) ?_)
                  · simp only [wS, simprocAttr, List.flatten_append, List.flatten_cons, List.flatten_nil, List.nil_append, List.append_nil]; try exact rfl
                  · simp only [wS, simprocAttr]; try exact rfl
                  generalize (ks ++ [[AV.int .i64 k1, .int .i64 n1, .int .i64 m1, .sl b1' es1]]) = fk at hfk hfl hfn ⊢
                  repeat' (first | with_reducible (first | refine v'1 fun _ _ => ?_ | refine v'2 ?_ | (first | refine v'3 ?_ | refine v'4 ?_ | refine v'5 fun _ _ _ _ => ?_ | refine v'6 (fun hg => ?_) (fun hg => ?_) <;> try simp only [hg]) <;> simp only [wS, simprocAttr] | (first | refine v's ?_ | refine v'e ?_ | refine v'r ?_) <;> try simp only [wE, simprocAttr] | refine v'8 ?_ | refine v'9 ?_))
                  refine EG.mono (fun i h => eff_own (r := 5) (cs := app.flatten) (sz := 4) (by' := 48) (mm := 1) (new := [.int .i64 26, .int .i64 w, .int .i64 0, .sl false fk]) (by kernel_rfl) rfl (by rw [flat_sz (fun e he => (hn e he).len), hm]) (by simp [srcA]) (by omega) h) ?_
                  simp only [wS, simprocAttr]
                  have e1 := wrap_succ (k := (m + 1)) hlt (by omega)
                  repeat' (first | with_reducible (first | refine v'1 fun _ _ => ?_ | refine v'2 ?_ | (first | refine v'3 ?_ | refine v'4 ?_ | refine v'5 fun _ _ _ _ => ?_ | refine v'6 (fun hg => ?_) (fun hg => ?_) <;> try simp only [hg]) <;> simp only [wS, simprocAttr, e1] | (first | refine v's ?_ | refine v'e ?_ | refine v'r ?_) <;> try simp only [wE, simprocAttr] | refine v'8 ?_ | refine v'9 ?_))
                  have hm3 : (app ++ [[AV.int .i64 26, .int .i64 w, .int .i64 0, .sl false fk]]).length = m + 1 + 1 := by simp [hm]
                  have hne3 : app ++ [[AV.int .i64 26, .int .i64 w, .int .i64 0, .sl false fk]] ≠ [] := by simp
                  refine hK1 _ ⟨(app ++ [[.int .i64 26, .int .i64 w, .int .i64 0, .sl false fk]], b5, c5), by rw [hm3]; omega, fun e he => by
                      rcases List.mem_append.1 he with he | he
                      · exact hn e he
                      · rw [List.mem_singleton.1 he]; exact hfn⟩ (Weak.ref ⟨?_, .inr ⟨Nat.zero_le _, ?_, ?_, ?_, ?_⟩⟩) (by simp only [hm3]; omega)
                  · simp only [wS, simprocAttr, hm3]; try exact rfl
                  · simp only [wS, simprocAttr, if_neg hne3, hm3, List.flatten_append]; try exact rfl
                  · exact fun g cs hg => inL_mono (p := noRef) (fun r hr => by cases hr) (hG0 g cs hg)
                  · simp only [if_neg hne3]
                    intro z hz
                    simp only [List.mem_cons, List.not_mem_nil, or_false] at hz
                    rcases hz with rfl | rfl | rfl | rfl | rfl <;> rfl
                  · simp only [if_neg hne3, List.all_cons, List.all_nil, Bool.and_true, Bool.and_eq_true]
                    exact ⟨rfl, chR_in _ _ _ _, rfl, rfl, rfl, inL_flat (inE_mono (p := noRef) (fun r hr => by cases hr) (nodes_tree (D := 12) fun e he => by
                      rcases List.mem_append.1 he with he | he
                      · exact hn e he
                      · rw [List.mem_singleton.1 he]; exact hfn))⟩
      · repeat' (first | with_reducible (first | refine v'1 fun _ _ => ?_ | refine v'2 ?_ | (first | refine v'3 ?_ | refine v'4 ?_ | refine v'5 fun _ _ _ _ => ?_ | refine v'6 (fun hg => ?_) (fun hg => ?_) <;> try simp only [hg]) <;> simp only [wS, simprocAttr] | (first | refine v's ?_ | refine v'e ?_ | refine v'r ?_) <;> try simp only [wE, simprocAttr] | refine v'9 ?_))
        refine ContE.go (by assumption) (eg_ref (ref_p (pn := pn) (app := app) (m := m) [(2, .ptr 0 0 0), (3, .ptr 1 0 0), (4, .ptr 2 0 0)] (r0 := .cells 0 [.int .i64 0, .int .i64 0, .int .i64 0, .sl true []]) (r1 := chR L a3 l3) ?_ hm (fun e he => (hn e he).len) (nodes_tree hn) ?_) ?_)
        · simp only [wS, simprocAttr]; try exact rfl
        · simp only [wS, simprocAttr]; try exact rfl
        repeat' (first | with_reducible (first | refine v'1 fun _ _ => ?_ | refine v'2 ?_ | (first | refine v'3 ?_ | refine v'4 ?_ | refine v'5 fun _ _ _ _ => ?_ | refine v'6 (fun hg => ?_) (fun hg => ?_) <;> try simp only [hg]) <;> simp only [wS, simprocAttr] | (first | refine v's ?_ | refine v'e ?_ | refine v'r ?_) <;> try simp only [wE, simprocAttr] | refine v'8 ?_ | refine v'9 ?_))
        have hv : VN 14 (.agg [.int .i64 27, .int .i64 pn, .int .i64 0, .sl false app]) := ⟨_, rfl, .mk (d := 12) (hd := by decide) _ _ _ _ _ (by omega) hn⟩
        refine eg_retC (v := .agg [.int .i64 27, .int .i64 pn, .int .i64 0, .sl false app]) rfl (by simp only [wS, simprocAttr]; try exact rfl) ?_
        exact EG.of _ (VN.wk hv) rfl
end Go.Proofs.YtijakngaipdncaaDoor
