import Derived.Test.YtijakngaipdncaaDoorC7
import Derived.Test.YtijakngaipdncaaDoorF5
import Derived.Test.YtijakngaipdncaaDoorFF
import Derived.Test.YtijakngaipdncaaDoorFG
import Derived.Test.YtijakngaipdncaaDoorFH
import Derived.Test.YtijakngaipdncaaDoorN14
import Derived.Test.YtijakngaipdncaaDoorR
set_option linter.unusedVariables false
set_option linter.unusedSimpArgs false
namespace Go.Proofs.YtijakngaipdncaaDoor
open Go.AM
attribute [local irreducible] AWp rgnS callR callV effR valR guardR stepR nextR
set_option maxRecDepth 100000
theorem tree_of {f : FuncId} {args : List AV} (h : EP Tryd.prog G0 f args (VN 14)) : ∃ t : T, Pure Tryd.prog G0 f args (.agg (T.enc t)) ∧ T.size t ≤ 100000000000 := by
  obtain ⟨_, ⟨c, rfl, hc⟩, hp⟩ := h
  obtain ⟨t, h1, h2⟩ := T.of_node hc
  have h3 := hp.wk
  rw [AM.wk, h1] at h3
  have h4 : szN 14 ≤ 100000000000 := by decide
  exact ⟨t, h3, by omega⟩
theorem enc_ex (t : T) : ∃ a b c d, T.enc t = [.int .i64 a, .int .i64 b, .int .i64 c, .sl false d] := by cases t; exact ⟨_, _, _, _, rfl⟩
theorem site_again {t : T} (ht : T.size t ≤ 100000000000) {k : Nat} {p : List Int} (h : (T.paths t)[k]? = some p) :
    ∃ u v : T, Pure Tryd.prog G0 7 [.agg (T.enc t), .sl false (ints p)] (.tup [.agg (T.enc u), .bool true]) ∧ Pure Tryd.prog G0 8 [.agg (T.enc u)] (.agg (T.enc v)) ∧ Pure Tryd.prog G0 8 [.agg (T.enc v)] (.agg (T.enc v)) ∧ Pure Tryd.prog G0 9 [.agg (T.enc v), .agg (T.enc v)] (.int .i64 0) ∧ Pure Tryd.prog G0 10 [.agg (T.enc v)] (.int .i64 (T.size v : Nat)) ∧ Pure Tryd.prog G0 10 [.agg (T.enc u)] (.int .i64 (T.size u : Nat)) ∧ T.size v ≤ T.size u := by
  obtain ⟨h1, u, h2, h3⟩ := T.paths_sub t p (List.mem_of_getElem? h)
  have h4 := T.size_fold oC oV u
  have h5 := fold_8 (T.fold oC oV u).1 (by omega)
  rw [T.fold_fold] at h5
  exact ⟨u, (T.fold oC oV u).1, at_7 p false t u (by omega) h2, fold_8 u (by omega), h5, self_9 _ _ (Nat.le_refl _) (by omega), size_10 _ _ (Nat.le_refl _) (by omega), size_10 _ _ (Nat.le_refl _) (by omega), h4⟩
theorem ints_tree (p : List Int) : inE noRef (ints p) = true := tree_ints p
set_option maxHeartbeats 8000000 in
theorem law_3 (l m : List Int) (hl : ∀ x ∈ l, Small64 x) (hm : ∀ x ∈ m, Small64 x) : Pure Tryd.prog G0 3 [encI l, encI m] (.bool true) := by
  obtain ⟨cp, hpr, hcp⟩ := tree_of (prog_ok l hl)
  obtain ⟨cq, hqr, hcq⟩ := tree_of (sample_ok m hm)
  have hlives := lives_ok
  refine pure_of_body hG0 Tryd.func3 rfl (by kernel_rfl) (by simp [Tryd.ntmps3]) (by simp [inL, tree_encI, inR]) (by simp [inR]) ?_
  simp only [Tryd.ntmps3, enterF, Nat.reduceAdd]
  obtain ⟨el, hel⟩ : ∃ es, encI l = .sl false es := ⟨_, rfl⟩
  obtain ⟨em, hem⟩ : ∃ es, encI m = .sl false es := ⟨_, rfl⟩
  rw [hel, hem]
  rw [hel] at hpr
  rw [hem] at hqr
  obtain ⟨PG, hPG⟩ : ∃ A : List (List AV), A = [T.enc cp, T.enc cq] := ⟨_, rfl⟩
  have hPn : PG.length = 2 := by rw [hPG]; rfl
  have hat : ∀ i : Nat, i < 2 → ∃ c : T, PG[i]? = some (T.enc c) ∧ T.size c ≤ 100000000000 := by
    intro i hi
    have : i = 0 ∨ i = 1 := by omega
    rw [hPG]
    rcases this with rfl | rfl
    · exact ⟨cp, rfl, hcp⟩
    · exact ⟨cq, rfl, hcq⟩
  have hPt : inE noRef PG = true := by rw [hPG]; simp only [inE, T.enc_tree, Bool.and_self]
  obtain ⟨pk, pn, pm, pes, hpe⟩ := enc_ex cp
  obtain ⟨qk, qn, qm, qes, hqe⟩ := enc_ex cq
  rw [hpe] at hpr hPG
  rw [hqe] at hqr hPG
  repeat' (first | with_reducible (first | refine u'1 fun _ _ => ?_ | refine u'2 ?_ | (first | refine u'3 ?_ | refine u'4 ?_ | refine u'5 fun _ _ _ _ => ?_ | refine u'6 (fun hg => ?_) (fun hg => ?_) <;> try simp only [hg]) <;> simp only [wS, simprocAttr] | (first | refine u's ?_ | refine u'e ?_ | refine u'r ?_) <;> try simp only [wE, simprocAttr] | refine u'8 ?_ | refine u'9 ?_))
  refine callR_tree hG0 hpr ?_
  simp only [wS, simprocAttr]
  refine callR_tree hG0 hqr ?_
  simp only [wS, simprocAttr]
  repeat' (first | with_reducible (first | refine u'1 fun _ _ => ?_ | refine u'2 ?_ | (first | refine u'3 ?_ | refine u'4 ?_ | refine u'5 fun _ _ _ _ => ?_ | refine u'6 (fun hg => ?_) (fun hg => ?_) <;> try simp only [hg]) <;> simp only [wS, simprocAttr] | (first | refine u's ?_ | refine u'e ?_ | refine u'r ?_) <;> try simp only [wE, simprocAttr] | refine u'8 ?_ | refine u'9 ?_))
  have w1 : ∀ i : Nat, i < 2 → IntKind.i64.wrap ((i : Int) + 1) = ((i + 1 : Nat) : Int) := fun i hi => wrap_succ hi (by decide)
  have hlt2 : ∀ i : Nat, decide ((i : Int) < 2) = true → i < 2 := fun i h => by simp at h; omega
  refine awp_loop_r (α := {i : Nat // i ≤ 2}) (fun i => [(5, .sl true PG), (6, .int .i64 (i.1 : Nat))]) (fun i => []) (fun i => 2 - i.1) ⟨0, Nat.zero_le _⟩ (Weak.ref ⟨?_, .inl ?_⟩) ?_
  · simp only [wS, simprocAttr, hPG]; try exact rfl
  · simp only [wS, simprocAttr]; try exact rfl
  · rintro ⟨i, hi⟩ K1 hK1
    repeat' (first | with_reducible (first | refine u'1 fun _ _ => ?_ | refine u'2 ?_ | (first | refine u'3 ?_ | refine u'4 ?_ | refine u'5 fun _ _ _ _ => ?_ | refine u'6 (fun hg => ?_) (fun hg => ?_) <;> try simp only [hg]) <;> simp only [wS, simprocAttr] | (first | refine u's ?_ | refine u'e ?_ | refine u'r ?_) <;> try simp only [wE, simprocAttr] | refine u'8 ?_ | refine u'9 ?_))
    refine ⟨fun h => ?_, fun h => ?_⟩
    · have hi2 := hlt2 i h
      obtain ⟨c, hgc, hc⟩ := hat i hi2
      have hp6 := paths_6 _ c (Nat.le_refl _) hc
      have hcf := fun (k : Nat) (p : List Int) => site_again (k := k) (p := p) hc
      have hcg := fun (k : Nat) (p : List Int) => pe_get (i := k) (p := p) (l := T.paths c)
      have hcl := pe_len (T.paths c)
      have hctr := pe_tree (T.paths c)
      have hcB : (T.paths c).length ≤ 100000000000 := by rw [T.paths_len]; exact hc
      generalize T.paths c = SS at hp6 hcf hcg hcl hctr hcB
      generalize hSE : PE SS = SEs at hp6 hcg hcl hctr
      obtain ⟨ck, cn, cm, ces, hce⟩ := enc_ex c
      rw [hce] at hgc hp6
      simp only [hce] at hcf
      repeat' (first | with_reducible (first | refine u'1 fun _ _ => ?_ | refine u'2 ?_ | (first | refine u'3 ?_ | refine u'4 ?_ | refine u'5 fun _ _ _ _ => ?_ | refine u'6 (fun hg => ?_) (fun hg => ?_) <;> try simp only [hg]) <;> simp only [wS, simprocAttr, hgc, hi2, hPn] | (first | refine u's ?_ | refine u'e ?_ | refine u'r ?_) <;> try simp only [wE, simprocAttr] | refine u'8 ?_ | refine u'9 ?_))
      refine callR_tree hG0 hp6 ?_
      simp only [wS, simprocAttr]
      repeat' (first | with_reducible (first | refine u'1 fun _ _ => ?_ | refine u'2 ?_ | (first | refine u'3 ?_ | refine u'4 ?_ | refine u'5 fun _ _ _ _ => ?_ | refine u'6 (fun hg => ?_) (fun hg => ?_) <;> try simp only [hg]) <;> simp only [wS, simprocAttr] | (first | refine u's ?_ | refine u'e ?_ | refine u'r ?_) <;> try simp only [wE, simprocAttr] | refine u'8 ?_ | refine u'9 ?_))
      refine awp_loop_r (α := {k : Nat // k ≤ SS.length}) (fun k => [(5, .sl true PG), (6, .int .i64 (i : Nat)), (7, .sl false SEs), (8, .int .i64 (k.1 : Nat))]) (fun k => []) (fun k => SS.length - k.1) ⟨0, Nat.zero_le _⟩ (Weak.ref ⟨?_, .inl ?_⟩) ?_
      · simp only [wS, simprocAttr]; try exact rfl
      · simp only [wS, simprocAttr]; try exact rfl
      · rintro ⟨k, hk⟩ K2 hK2
        repeat' (first | with_reducible (first | refine u'1 fun _ _ => ?_ | refine u'2 ?_ | (first | refine u'3 ?_ | refine u'4 ?_ | refine u'5 fun _ _ _ _ => ?_ | refine u'6 (fun hg => ?_) (fun hg => ?_) <;> try simp only [hg]) <;> simp only [wS, simprocAttr] | (first | refine u's ?_ | refine u'e ?_ | refine u'r ?_) <;> try simp only [wE, simprocAttr] | refine u'8 ?_ | refine u'9 ?_))
        refine ⟨fun h => ?_, fun h => ?_⟩
        · have hlt : k < SS.length := by simpa [hcl] using h
          have hlt' : k < SEs.length := by omega
          have e1 := wrap_succ (k := k) hlt (by omega)
          obtain ⟨p, hx⟩ : ∃ p, SS[k]? = some p := ⟨_, List.getElem?_eq_getElem hlt⟩
          have hgs := hcg k p hx
          obtain ⟨u, v, ka, kf, kf2, kc, kv, ku, hsz⟩ := hcf k p hx
          have hpt := ints_tree p
          generalize ints p = ip at hgs ka hpt
          have hut := T.enc_tree u
          have hvt := T.enc_tree v
          obtain ⟨uk, un, um, ues, hue⟩ := enc_ex u
          obtain ⟨vk, vn, vm, ves, hve⟩ := enc_ex v
          rw [hue] at ka kf ku hut
          rw [hve] at kf kf2 kc kv hvt
          have g0 : ((0 : Int) != 0) = false := rfl
          have g1 : decide (((T.size v : Nat) : Int) > ((T.size u : Nat) : Int)) = false := by simp; omega
          repeat' (first | with_reducible (first | refine u'1 fun _ _ => ?_ | refine u'2 ?_ | (first | refine u'3 ?_ | refine u'4 ?_ | refine u'5 fun _ _ _ _ => ?_ | refine u'6 (fun hg => ?_) (fun hg => ?_) <;> try simp only [hg]) <;> simp only [wS, simprocAttr, hgs, hgc, hlt', hi2, hPn, g0, g1, e1] | (first | refine u's ?_ | refine u'e ?_ | refine u'r ?_) <;> try simp only [wE, simprocAttr] | refine u'8 ?_ | refine u'9 ?_))
          repeat' (first | with_reducible (first | refine u'1 fun _ _ => ?_ | refine u'2 ?_ | (first | refine u'3 ?_ | refine u'4 ?_ | refine u'5 fun _ _ _ _ => ?_ | refine u'6 (fun hg => ?_) (fun hg => ?_) <;> try simp only [hg]) <;> simp only [wS, simprocAttr, hgs, hgc, hlt', hi2, hPn, g0, g1, e1] | (first | refine u's ?_ | refine u'e ?_ | refine u'r ?_) <;> try simp only [wE, simprocAttr] | refine u'8 ?_ | refine u'9 ?_) | (refine callR_tree hG0 (ka) ?_; simp only [wS, simprocAttr, hgs, hgc, hlt', hi2, hPn, g0, g1, e1]) | (refine callR_tree hG0 (kf) ?_; simp only [wS, simprocAttr, hgs, hgc, hlt', hi2, hPn, g0, g1, e1]) | (refine callR_tree hG0 (kf2) ?_; simp only [wS, simprocAttr, hgs, hgc, hlt', hi2, hPn, g0, g1, e1]) | (refine callR_tree hG0 (kc) ?_; simp only [wS, simprocAttr, hgs, hgc, hlt', hi2, hPn, g0, g1, e1]) | (refine callR_tree hG0 (kv) ?_; simp only [wS, simprocAttr, hgs, hgc, hlt', hi2, hPn, g0, g1, e1]) | (refine callR_tree hG0 (ku) ?_; simp only [wS, simprocAttr, hgs, hgc, hlt', hi2, hPn, g0, g1, e1]) | with_reducible refine And.intro (fun _ => ?_) (fun _ => ?_) | with_reducible refine And.intro (by kernel_rfl) ?_)
          all_goals
            refine hK2.go ⟨k + 1, hlt⟩ (Weak.ref ⟨?_, .inr ⟨Nat.zero_le _, ?_, fun g cs hg => inL_no (hG0 g cs hg), ?_, ?_⟩⟩) (by simp only; omega)
            · simp only [wS, simprocAttr]; try exact rfl
            · simp only [wS, simprocAttr]; try exact rfl
            · intro z hz
              simp only [List.mem_cons, List.not_mem_nil, or_false] at hz
              rcases hz with rfl | rfl | rfl | rfl <;> first | rfl | (simp only [inR]; first | exact inE_no hPt | exact inE_no hctr)
            · rfl
        · repeat' (first | with_reducible (first | refine u'1 fun _ _ => ?_ | refine u'2 ?_ | (first | refine u'3 ?_ | refine u'4 ?_ | refine u'5 fun _ _ _ _ => ?_ | refine u'6 (fun hg => ?_) (fun hg => ?_) <;> try simp only [hg]) <;> simp only [wS, simprocAttr, w1 i hi2] | (first | refine u's ?_ | refine u'e ?_ | refine u'r ?_) <;> try simp only [wE, simprocAttr] | refine u'8 ?_ | refine u'9 ?_))
          refine hK1.go ⟨i + 1, hi2⟩ (Weak.ref ⟨?_, .inl ?_⟩) (by simp only; omega)
          · simp only [wS, simprocAttr]; try exact rfl
          · simp only [wS, simprocAttr]; try exact rfl
    · repeat' (first | with_reducible (first | refine u'1 fun _ _ => ?_ | refine u'2 ?_ | (first | refine u'3 ?_ | refine u'4 ?_ | refine u'5 fun _ _ _ _ => ?_ | refine u'6 (fun hg => ?_) (fun hg => ?_) <;> try simp only [hg]) <;> simp only [wS, simprocAttr] | (first | refine u's ?_ | refine u'e ?_ | refine u'r ?_) <;> try simp only [wE, simprocAttr] | refine u'8 ?_ | refine u'9 ?_))
      refine callR_tree hG0 hlives ?_
      simp only [wS, simprocAttr]
      repeat' (first | with_reducible (first | refine u'1 fun _ _ => ?_ | refine u'2 ?_ | (first | refine u'3 ?_ | refine u'4 ?_ | refine u'5 fun _ _ _ _ => ?_ | refine u'6 (fun hg => ?_) (fun hg => ?_) <;> try simp only [hg]) <;> simp only [wS, simprocAttr] | (first | refine u's ?_ | refine u'e ?_ | refine u'r ?_) <;> try simp only [wE, simprocAttr] | refine u'8 ?_ | refine u'9 ?_))
      refine body_ret1 rfl ?_
      simp only [wS, simprocAttr]
end Go.Proofs.YtijakngaipdncaaDoor
